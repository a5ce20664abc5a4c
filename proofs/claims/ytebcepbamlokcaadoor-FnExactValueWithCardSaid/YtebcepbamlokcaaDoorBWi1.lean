/- GLaid, GShelf, GLib, Qx4, Qx3, GName, GPlace, GOwned, GOwn, PlainNum, GIndex, GVal, Qx5 -/
import Derived.Test.YtebcepbamlokcaaDoorProg
import Derived.Below
import Derived.Lib.LaidTab
import Derived.Lib.ItoaMem
import Derived.Shelf.Vars
import Derived.KernelRfl
import Derived.Shelf.Strings.Builder1
import Derived.Shelf.Strings.Builder2
import Derived.Shelf.Small.Bits
import Derived.Shelf.Strings.BuilderF
import Derived.Shelf.Strconv.Atoi
import Derived.Shelf.Strconv.Itoa0
import Derived.Shelf.Strconv.Itoa1
import Derived.Shelf.LaysM
import Derived.Shelf.Strconv.Itoa2
import Derived.Shelf.Strconv.Itoa3
import Derived.Shelf.Strconv.AtoiErrFast
import Derived.Shelf.Strconv.ParseIntEmpty
import Derived.Shelf.Strconv.AtoiFail
import Derived.Shelf.Strconv.Clone
import Derived.Shelf.Strconv.SyntaxError
import Derived.Shelf.LaysC
import Derived.Shelf.Strconv.ToError
import Derived.Shelf.Strconv.Lower
import Derived.Shelf.Strconv.ParseUint10
import Derived.Shelf.Strconv.ParseUint10Empty
import Derived.Shelf.Strconv.ParseUint10Any
import Derived.Shelf.Strconv.ParseInt10
import Derived.Shelf.Strconv.AtoiLong
import Derived.Shelf.Strconv.AtoiInnerAll
import Derived.Shelf.Strconv.RangeError
import Derived.Shelf.Strconv.ToErrorRange
import Derived.Shelf.Strconv.AtoiAll
import Derived.Shelf.Strconv.ErrVarAll
import Derived.Shelf.Strings.Search1
import Derived.Shelf.Strings.Search2
import Derived.Shelf.Strings.Cut
import Derived.Shelf.Strings.Shaped
import Derived.Shelf.Strings.Prefix
import Derived.Shelf.Bits.Mul64
import Derived.Shelf.Strings.Repeat
import Derived.Ground.Names2Prog
import Derived.Shelf.Slices.Clone
import Derived.Shelf.Slices.CompactS
import Derived.Shelf.Slices.Cells
import Derived.Ground.SlgnProg
import Derived.Shelf.SlicesE.Clone
import Derived.Lib.Strings
import Derived.Laws.Cover1
import Derived.Lib.AtoiAll
import Derived.Lib.IndexMore
import Derived.Laws.Bits64
import Derived.Test.YtebcepbamlokcaaDoorBWi0
namespace Go.Proofs.YtebcepbamlokcaaDoor.Q
open Go.RowKit

def wordsL : List ByteArray := [⟨#[110, 117, 108, 108]⟩, ⟨#[116, 114, 117, 101]⟩, ⟨#[102, 97, 108, 115, 101]⟩, ⟨#[105, 102]⟩, ⟨#[116, 104, 101, 110]⟩, ⟨#[101, 108, 115, 101]⟩, ⟨#[108, 111, 99, 97, 108]⟩, ⟨#[102, 117, 110, 99, 116, 105, 111, 110]⟩, ⟨#[115, 101, 108, 102]⟩, ⟨#[115, 117, 112, 101, 114]⟩, ⟨#[101, 114, 114, 111, 114]⟩, ⟨#[105, 109, 112, 111, 114, 116]⟩, ⟨#[102, 111, 114]⟩, ⟨#[105, 110]⟩, ⟨#[115, 116, 100]⟩]
open Go.Proofs.YtebcepbamlokcaaDoorW.PrintWords in
def WordsAt (w : World) : Prop := ∃ ad cap, w.cell? ⟨0, 0, none⟩ = some (.slice (some ad) 15 cap) ∧ 15 ≤ cap ∧ Kd.C Kd.string w (some ad) 15 wordsL

def ErrsAt (w : World) : Prop := (∃ te pe, w.cell? ⟨2, 0, none⟩ = some (.iface te pe)) ∧ ∃ te pe, w.cell? ⟨3, 0, none⟩ = some (.iface te pe)

def LaidAt (m : Nat) (w : World) : Prop :=
  w.ShapedOpen Tryd.prog ∧
  (m.testBit 0 = true → Lib.TabIs Tryd.prog w "internal/strconv.uint64pow10" .u64 Lib.pow10Tab) ∧
  (m.testBit 1 = true → WordsAt w) ∧
  (m.testBit 2 = true → ErrsAt w)

def LaidG (m : Nat) (w : World) : Prop := ∃ W0, LaidAt m W0 ∧ Below W0.heap.size W0 w

theorem below_trans' {w w1 w2 : World} (h : Below w.heap.size w w1) (k : Below w1.heap.size w1 w2) : Below w.heap.size w w2 :=
  h.trans ⟨k.os, k.tape, k.output, k.size, fun i hi => k.block i (Nat.lt_of_lt_of_le hi h.size)⟩

theorem LaidAt.sub {m m' : Nat} (hs : m &&& m' = m) {w : World} (h : LaidAt m' w) : LaidAt m w := by
  have hb : ∀ i, m.testBit i = true → m'.testBit i = true := by
    intro i hi
    rw [← hs, Nat.testBit_and] at hi
    exact (Bool.and_eq_true_iff.mp hi).2
  exact ⟨h.1, fun hi => h.2.1 (hb 0 hi), fun hi => h.2.2.1 (hb 1 hi), fun hi => h.2.2.2 (hb 2 hi)⟩

theorem LaidG.below {m m' : Nat} {w W : World} (hs : m &&& m' = m) (h : LaidG m' w) (hb : Below w.heap.size w W) : LaidG m W := by
  obtain ⟨W0, h0, h1⟩ := h
  exact ⟨W0, h0.sub hs, below_trans' h1 hb⟩

theorem LaidG.of_at {m : Nat} {w : World} (h : LaidAt m w) : LaidG m w := ⟨w, h, Below.refl _ _⟩

theorem var_below {P : Program} {w W : World} {name : String} {cs : Array Value} (h : Below w.heap.size w W) (hv : w.var? P name = some cs) : W.var? P name = some cs := by
  unfold World.var? at hv ⊢
  cases hg : P.globalNamed name with
  | none => rw [hg] at hv; cases hv
  | some g =>
    rw [hg] at hv
    simp only [Option.bind_some] at hv ⊢
    cases hh : w.heap[g]? with
    | none => rw [hh] at hv; cases hv
    | some o =>
      have hlt : g < w.heap.size := (Array.getElem?_eq_some_iff.1 hh).1
      rw [h.block g hlt, hh]
      rw [hh] at hv
      exact hv

theorem LaidG.pow10 {m : Nat} {w : World} (h : LaidG m w) (hm : m.testBit 0 = true) : Lib.TabIs Tryd.prog w "internal/strconv.uint64pow10" .u64 Lib.pow10Tab := by
  obtain ⟨W0, h0, h1⟩ := h
  exact var_below h1 (h0.2.1 hm)

open Go.Proofs.YtebcepbamlokcaaDoorW.PrintWords in
theorem LaidG.words {m : Nat} {w : World} (h : LaidG m w) (hm : m.testBit 1 = true) : WordsAt w := by
  obtain ⟨W0, h0, h1⟩ := h
  obtain ⟨ad, cap, hc, hl, hC⟩ := h0.2.2.1 hm
  exact ⟨ad, cap, (h1.cell (World.block_lt_of_cell? W0 _ hc)).trans hc, hl, Kd.C_below hC h1⟩

theorem LaidG.errs {m : Nat} {w : World} (h : LaidG m w) (hm : m.testBit 2 = true) : ErrsAt w := by
  obtain ⟨W0, h0, h1⟩ := h
  obtain ⟨⟨t1, p1, e1⟩, ⟨t2, p2, e2⟩⟩ := h0.2.2.2 hm
  exact ⟨⟨t1, p1, (h1.cell (World.block_lt_of_cell? W0 _ e1)).trans e1⟩, ⟨t2, p2, (h1.cell (World.block_lt_of_cell? W0 _ e2)).trans e2⟩⟩

theorem LaidG.cell {m : Nat} {w : World} (h : LaidG m w) {a : Addr} {v : World → Value → Prop} (hc : ∀ W0, W0.ShapedOpen Tryd.prog → ∃ x, W0.cell? a = some x ∧ v W0 x) : ∃ x, w.cell? a = some x := by
  obtain ⟨W0, h0, h1⟩ := h
  obtain ⟨x, hx, _⟩ := hc W0 h0.1
  exact ⟨x, (h1.cell (World.block_lt_of_cell? W0 a hx)).trans hx⟩

open Go.Proofs.YtebcepbamlokcaaDoorW.PrintWords in
theorem at_step {w W W1 : World} (hB : Aside0 (Below w.heap.size w W)) (hb : Below W.heap.size W W1) : Aside0 (Below w.heap.size w W1) := ⟨below_trans' hB.out hb⟩
open Go.Proofs.YtebcepbamlokcaaDoorW.PrintWords in
theorem box_below (w : World) (o : Obj) : Aside0 (Below w.heap.size w (w.alloc o)) := ⟨(Below.refl _ _).alloc (Nat.le_refl _) _⟩
end Go.Proofs.YtebcepbamlokcaaDoor.Q
namespace Go.Proofs
open Go.Shelf
def Tryd.laysM171_ren : Go.Shelf.Ren := ⟨fun | 171 => 77 | 243 => 114 | 246 => 142 | 283 => 160 | 284 => 161 | 285 => 162 | 286 => 163 | 129 => 178 | 317 => 177 | 318 => 179 | 319 => 180 | 320 => 181 | 337 => 198 | 338 => 199 | n => n, fun | 3 => 3 | 9 => 9 | 2 => 2 | 4 => 4 | 171 => 148 | 0 => 0 | 53 => 135 | 37 => 22 | 5 => 5 | 173 => 151 | 212 => 166 | 51 => 132 | 20 => 20 | 213 => 167 | 46 => 113 | 232 => 189 | 233 => 190 | n => n, fun | 17 => 4 | 18 => 5 | 19 => 6 | n => n⟩
theorem Tryd.laysM171 : Go.Proofs.LaysM.n171 Tryd.prog Tryd.laysM171_ren := {
 mixed := by kernel_rfl
 f129 := Tryd.func178.trans (congrArg some (by kernel_rfl))
 f171 := Tryd.func77.trans (congrArg some (by kernel_rfl))
 f243 := Tryd.func114.trans (congrArg some (by kernel_rfl))
 f246 := Tryd.func142.trans (congrArg some (by kernel_rfl))
 f283 := Tryd.func160.trans (congrArg some (by kernel_rfl))
 f284 := Tryd.func161.trans (congrArg some (by kernel_rfl))
 f285 := Tryd.func162.trans (congrArg some (by kernel_rfl))
 f286 := Tryd.func163.trans (congrArg some (by kernel_rfl))
 f317 := Tryd.func177.trans (congrArg some (by kernel_rfl))
 f318 := Tryd.func179.trans (congrArg some (by kernel_rfl))
 f319 := Tryd.func180.trans (congrArg some (by kernel_rfl))
 f320 := Tryd.func181.trans (congrArg some (by kernel_rfl))
 f337 := Tryd.func198.trans (congrArg some (by kernel_rfl))
 f338 := Tryd.func199.trans (congrArg some (by kernel_rfl))
 t0 := Tryd.underlying0
 a0 := Tryd.isAgg0
 z0 := Tryd.sizeOf0
 v0 := Tryd.zeroValue0
 t2 := Tryd.underlying2
 a2 := Tryd.isAgg2
 z2 := Tryd.sizeOf2
 v2 := Tryd.zeroValue2
 t3 := Tryd.underlying3
 a3 := Tryd.isAgg3
 z3 := Tryd.sizeOf3
 v3 := Tryd.zeroValue3
 t4 := Tryd.underlying4
 a4 := Tryd.isAgg4
 z4 := Tryd.sizeOf4
 v4 := Tryd.zeroValue4
 t5 := Tryd.underlying5
 a5 := Tryd.isAgg5
 z5 := Tryd.sizeOf5
 v5 := Tryd.zeroValue5
 t9 := Tryd.underlying9
 a9 := Tryd.isAgg9
 z9 := Tryd.sizeOf9
 v9 := Tryd.zeroValue9
 t20 := Tryd.underlying20
 a20 := Tryd.isAgg20
 z20 := Tryd.sizeOf20
 v20 := Tryd.zeroValue20
 t37 := Tryd.underlying22
 a37 := Tryd.isAgg22
 z37 := Tryd.sizeOf22
 v37 := Tryd.zeroValue22
 t46 := Tryd.underlying113
 a46 := Tryd.isAgg113
 z46 := Tryd.sizeOf113
 v46 := Tryd.zeroValue113
 t51 := Tryd.underlying132
 a51 := Tryd.isAgg132
 z51 := Tryd.sizeOf132
 v51 := Tryd.zeroValue132
 t53 := Tryd.underlying135
 a53 := Tryd.isAgg135
 z53 := Tryd.sizeOf135
 v53 := Tryd.zeroValue135
 t171 := Tryd.underlying148
 a171 := Tryd.isAgg148
 z171 := Tryd.sizeOf148
 v171 := Tryd.zeroValue148
 t173 := Tryd.underlying151
 a173 := Tryd.isAgg151
 z173 := Tryd.sizeOf151
 v173 := Tryd.zeroValue151
 t212 := Tryd.underlying166
 a212 := Tryd.isAgg166
 z212 := Tryd.sizeOf166
 v212 := Tryd.zeroValue166
 t213 := Tryd.underlying167
 a213 := Tryd.isAgg167
 z213 := Tryd.sizeOf167
 t232 := Tryd.underlying189
 a232 := Tryd.isAgg189
 z232 := Tryd.sizeOf189
 v232 := Tryd.zeroValue189
 t233 := Tryd.underlying190
 a233 := Tryd.isAgg190
 z233 := Tryd.sizeOf190
 v233 := Tryd.zeroValue190
 g17 := by kernel_rfl
 g18 := by kernel_rfl
 g19 := by kernel_rfl
 i0 := by kernel_rfl
 i2 := by kernel_rfl
 i3 := by kernel_rfl
 i4 := by kernel_rfl
 i5 := by kernel_rfl
 i9 := by kernel_rfl
 i20 := by kernel_rfl
 i37 := by kernel_rfl
 i46 := by kernel_rfl
 i51 := by kernel_rfl
 i53 := by kernel_rfl
 i171 := by kernel_rfl
 i173 := by kernel_rfl
 i212 := by kernel_rfl
 i232 := by kernel_rfl
 i233 := by kernel_rfl
 m17 := by kernel_rfl
 m18 := by kernel_rfl
 m19 := by kernel_rfl }
open Go.RowKit Go.Sort Go.Lib in
theorem Tryd.strconv_Itoa (n : Int) (h0 : -9223372036854775808 ≤ n) (h1 : n ≤ 9223372036854775807) (w : World) (htab : Lib.TabIs Tryd.prog w "internal/strconv.uint64pow10" .u64 Lib.pow10Tab) :
  Calls Tryd.prog 77 #[.int .i64 n] w fun e w' => e = .returned (.string ⟨(Lib.itoa n).toArray⟩) ∧ ∃ k os, w' = grow (w.drewN k) os := Any.strconv_Itoa Tryd.laysM171 n h0 h1 w htab
def Tryd.laysC172_ren : Go.Shelf.Ren := ⟨fun | 172 => 85 | 244 => 126 | 245 => 127 | 247 => 149 | 279 => 150 | 280 => 151 | 281 => 152 | 282 => 153 | 287 => 170 | 316 => 171 | 171 => 77 | 205 => 172 | 321 => 184 | 322 => 185 | 243 => 114 | 246 => 142 | 283 => 160 | 284 => 161 | 285 => 162 | 286 => 163 | 129 => 178 | 317 => 177 | 318 => 179 | 319 => 180 | 320 => 181 | 337 => 198 | 338 => 199 | n => n, fun | 9 => 9 | 3 => 3 | 75 => 92 | 76 => 93 | 4 => 4 | 5 => 5 | 167 => 140 | 37 => 22 | 0 => 0 | 85 => 141 | 2 => 2 | 168 => 143 | 53 => 135 | 175 => 157 | 46 => 113 | 210 => 160 | 127 => 138 | 145 => 173 | 143 => 171 | 21 => 21 | 171 => 148 | 173 => 151 | 212 => 166 | 51 => 132 | 20 => 20 | 213 => 167 | 232 => 189 | 233 => 190 | 80 => 122 | n => n, fun | 15 => 2 | 16 => 3 | 17 => 4 | 18 => 5 | 19 => 6 | n => n⟩
theorem Tryd.laysC172 : Go.Proofs.LaysC.n172 Tryd.prog Tryd.laysC172_ren := {
 mixed := by kernel_rfl
 f129 := Tryd.func178.trans (congrArg some (by kernel_rfl))
 f171 := Tryd.func77.trans (congrArg some (by kernel_rfl))
 f172 := Tryd.func85.trans (congrArg some (by kernel_rfl))
 f205 := Tryd.func172.trans (congrArg some (by kernel_rfl))
 f243 := Tryd.func114.trans (congrArg some (by kernel_rfl))
 f244 := Tryd.func126.trans (congrArg some (by kernel_rfl))
 f245 := Tryd.func127.trans (congrArg some (by kernel_rfl))
 f246 := Tryd.func142.trans (congrArg some (by kernel_rfl))
 f247 := Tryd.func149.trans (congrArg some (by kernel_rfl))
 f279 := Tryd.func150.trans (congrArg some (by kernel_rfl))
 f280 := Tryd.func151.trans (congrArg some (by kernel_rfl))
 f281 := Tryd.func152.trans (congrArg some (by kernel_rfl))
 f282 := Tryd.func153.trans (congrArg some (by kernel_rfl))
 f283 := Tryd.func160.trans (congrArg some (by kernel_rfl))
 f284 := Tryd.func161.trans (congrArg some (by kernel_rfl))
 f285 := Tryd.func162.trans (congrArg some (by kernel_rfl))
 f286 := Tryd.func163.trans (congrArg some (by kernel_rfl))
 f287 := Tryd.func170.trans (congrArg some (by kernel_rfl))
 f316 := Tryd.func171.trans (congrArg some (by kernel_rfl))
 f317 := Tryd.func177.trans (congrArg some (by kernel_rfl))
 f318 := Tryd.func179.trans (congrArg some (by kernel_rfl))
 f319 := Tryd.func180.trans (congrArg some (by kernel_rfl))
 f320 := Tryd.func181.trans (congrArg some (by kernel_rfl))
 f321 := Tryd.func184.trans (congrArg some (by kernel_rfl))
 f322 := Tryd.func185.trans (congrArg some (by kernel_rfl))
 f337 := Tryd.func198.trans (congrArg some (by kernel_rfl))
 f338 := Tryd.func199.trans (congrArg some (by kernel_rfl))
 t0 := Tryd.underlying0
 a0 := Tryd.isAgg0
 z0 := Tryd.sizeOf0
 v0 := Tryd.zeroValue0
 t2 := Tryd.underlying2
 a2 := Tryd.isAgg2
 z2 := Tryd.sizeOf2
 v2 := Tryd.zeroValue2
 t3 := Tryd.underlying3
 a3 := Tryd.isAgg3
 z3 := Tryd.sizeOf3
 v3 := Tryd.zeroValue3
 t4 := Tryd.underlying4
 a4 := Tryd.isAgg4
 z4 := Tryd.sizeOf4
 v4 := Tryd.zeroValue4
 t5 := Tryd.underlying5
 a5 := Tryd.isAgg5
 z5 := Tryd.sizeOf5
 v5 := Tryd.zeroValue5
 t9 := Tryd.underlying9
 a9 := Tryd.isAgg9
 z9 := Tryd.sizeOf9
 v9 := Tryd.zeroValue9
 t20 := Tryd.underlying20
 a20 := Tryd.isAgg20
 z20 := Tryd.sizeOf20
 v20 := Tryd.zeroValue20
 t21 := Tryd.underlying21
 a21 := Tryd.isAgg21
 z21 := Tryd.sizeOf21
 v21 := Tryd.zeroValue21
 t37 := Tryd.underlying22
 a37 := Tryd.isAgg22
 z37 := Tryd.sizeOf22
 v37 := Tryd.zeroValue22
 t46 := Tryd.underlying113
 a46 := Tryd.isAgg113
 z46 := Tryd.sizeOf113
 v46 := Tryd.zeroValue113
 t51 := Tryd.underlying132
 a51 := Tryd.isAgg132
 z51 := Tryd.sizeOf132
 v51 := Tryd.zeroValue132
 t53 := Tryd.underlying135
 a53 := Tryd.isAgg135
 z53 := Tryd.sizeOf135
 v53 := Tryd.zeroValue135
 t75 := Tryd.underlying92
 a75 := Tryd.isAgg92
 z75 := Tryd.sizeOf92
 v75 := Tryd.zeroValue92
 t76 := Tryd.underlying93
 a76 := Tryd.isAgg93
 z76 := Tryd.sizeOf93
 v76 := Tryd.zeroValue93
 t85 := Tryd.underlying141
 a85 := Tryd.isAgg141
 z85 := Tryd.sizeOf141
 v85 := Tryd.zeroValue141
 t127 := Tryd.underlying138
 a127 := Tryd.isAgg138
 z127 := Tryd.sizeOf138
 v127 := Tryd.zeroValue138
 t143 := Tryd.underlying171
 a143 := Tryd.isAgg171
 z143 := Tryd.sizeOf171
 v143 := Tryd.zeroValue171
 t145 := Tryd.underlying173
 a145 := Tryd.isAgg173
 z145 := Tryd.sizeOf173
 v145 := Tryd.zeroValue173
 t167 := Tryd.underlying140
 a167 := Tryd.isAgg140
 z167 := Tryd.sizeOf140
 v167 := Tryd.zeroValue140
 t168 := Tryd.underlying143
 a168 := Tryd.isAgg143
 z168 := Tryd.sizeOf143
 v168 := Tryd.zeroValue143
 t171 := Tryd.underlying148
 a171 := Tryd.isAgg148
 z171 := Tryd.sizeOf148
 v171 := Tryd.zeroValue148
 t173 := Tryd.underlying151
 a173 := Tryd.isAgg151
 z173 := Tryd.sizeOf151
 v173 := Tryd.zeroValue151
 t175 := Tryd.underlying157
 a175 := Tryd.isAgg157
 z175 := Tryd.sizeOf157
 v175 := Tryd.zeroValue157
 t210 := Tryd.underlying160
 a210 := Tryd.isAgg160
 z210 := Tryd.sizeOf160
 v210 := Tryd.zeroValue160
 t212 := Tryd.underlying166
 a212 := Tryd.isAgg166
 z212 := Tryd.sizeOf166
 v212 := Tryd.zeroValue166
 t213 := Tryd.underlying167
 a213 := Tryd.isAgg167
 z213 := Tryd.sizeOf167
 t232 := Tryd.underlying189
 a232 := Tryd.isAgg189
 z232 := Tryd.sizeOf189
 v232 := Tryd.zeroValue189
 t233 := Tryd.underlying190
 a233 := Tryd.isAgg190
 z233 := Tryd.sizeOf190
 v233 := Tryd.zeroValue190
 g15 := by kernel_rfl
 g16 := by kernel_rfl
 g17 := by kernel_rfl
 g18 := by kernel_rfl
 g19 := by kernel_rfl
 t80 := Tryd.underlying122
 a80 := Tryd.isAgg122
 z80 := Tryd.sizeOf122
 v80 := Tryd.zeroValue122
 i0 := by kernel_rfl
 i2 := by kernel_rfl
 i3 := by kernel_rfl
 i4 := by kernel_rfl
 i5 := by kernel_rfl
 i9 := by kernel_rfl
 i20 := by kernel_rfl
 i21 := by kernel_rfl
 i37 := by kernel_rfl
 i46 := by kernel_rfl
 i51 := by kernel_rfl
 i53 := by kernel_rfl
 i75 := by kernel_rfl
 i76 := by kernel_rfl
 i80 := by kernel_rfl
 i85 := by kernel_rfl
 i127 := by kernel_rfl
 i143 := by kernel_rfl
 i145 := by kernel_rfl
 i167 := by kernel_rfl
 i168 := by kernel_rfl
 i171 := by kernel_rfl
 i173 := by kernel_rfl
 i175 := by kernel_rfl
 i210 := by kernel_rfl
 i212 := by kernel_rfl
 i232 := by kernel_rfl
 i233 := by kernel_rfl
 m15 := by kernel_rfl
 m16 := by kernel_rfl
 m17 := by kernel_rfl
 m18 := by kernel_rfl
 m19 := by kernel_rfl
 c0 := by kernel_rfl
 c2 := by kernel_rfl
 c3 := by kernel_rfl
 c4 := by kernel_rfl
 c5 := by kernel_rfl
 c9 := by kernel_rfl
 c20 := by kernel_rfl
 c21 := by kernel_rfl
 c37 := by kernel_rfl
 c46 := by kernel_rfl
 c51 := by kernel_rfl
 c53 := by kernel_rfl
 c75 := by kernel_rfl
 c76 := by kernel_rfl
 c80 := by kernel_rfl
 c85 := by kernel_rfl
 c127 := by kernel_rfl
 c143 := by kernel_rfl
 c145 := by kernel_rfl
 c167 := by kernel_rfl
 c168 := by kernel_rfl
 c171 := by kernel_rfl
 c173 := by kernel_rfl
 c175 := by kernel_rfl
 c210 := by kernel_rfl
 c212 := by kernel_rfl
 c213 := by kernel_rfl
 c232 := by kernel_rfl
 c233 := by kernel_rfl }
open Go.RowKit in
theorem Tryd.strconv_Atoi_ok (s : ByteArray) (hmax : s.size ≤ 9223372036854775806) (v : Int) (h : Lib.atoiAll s.data.toList = .ok v) (w : World) :
  Calls Tryd.prog 85 #[.string s] w fun e w' => e = .returned (.tuple #[.int .i64 v, .nilIface]) ∧ (w' = w ∨ ∃ t, w' = Lib.bytesWorld w 5 t) := Any.strconv_Atoi_ok Tryd.laysC172 s hmax v h w
open Go.RowKit in
theorem Tryd.strconv_Atoi_syntax (s : ByteArray) (hlim : s.size ≤ 281474976710656) (h : Lib.atoiAll s.data.toList = Lib.atoiAll []) (ev : Value) (w : World) (hv : w.cell? ⟨2, 0, none⟩ = some ev) (hev : ev = .nilIface ∨ ∃ te pe, ev = .iface te pe) :
  Calls Tryd.prog 85 #[.string s] w fun e w' => ∃ N, e = .returned (.tuple #[.int .i64 (0), .iface 143 (.pointer (some ⟨N, 0, none⟩))]) ∧ w.heap.size ≤ N ∧ w'.heap[N]? = some (.cells #[.string ⟨#[65, 116, 111, 105]⟩, .string s, ev] 160 (0, 0)) ∧ Below w.heap.size w w' := Any.strconv_Atoi_syntax Tryd.laysC172 s hlim h ev w hv hev
open Go.RowKit in
theorem Tryd.strconv_Atoi_range (s : ByteArray) (hlim : s.size ≤ 281474976710656) (h : Lib.atoiAll s.data.toList = .range) (ev : Value) (w : World) (hv : w.cell? ⟨3, 0, none⟩ = some ev) (hev : ev = .nilIface ∨ ∃ te pe, ev = .iface te pe) :
  Calls Tryd.prog 85 #[.string s] w fun e w' => ∃ N, e = .returned (.tuple #[.int .i64 (Lib.atoiSat s.data.toList), .iface 143 (.pointer (some ⟨N, 0, none⟩))]) ∧ w.heap.size ≤ N ∧ w'.heap[N]? = some (.cells #[.string ⟨#[65, 116, 111, 105]⟩, .string s, ev] 160 (0, 0)) ∧ Below w.heap.size w w' := Any.strconv_Atoi_range Tryd.laysC172 s hlim h ev w hv hev
end Go.Proofs
namespace Go.Proofs.YtebcepbamlokcaaDoor.Q
open Go.RowKit

theorem below_drawn {w W : World} (h : Below w.heap.size w W) (n : Nat) : Below w.heap.size w (W.drewN n) := ⟨h.os, h.tape, h.output, h.size, h.block⟩

def strconv_Itoa.f (a0 : Int) : Option ByteArray := if -9223372036854775808 ≤ a0 ∧ a0 ≤ 9223372036854775807 then some ⟨(Lib.itoa a0).toArray⟩ else none
theorem grow_below (w : World) (k : Nat) (os : Array Obj) : Below w.heap.size w (Go.Sort.grow (w.drewN k) os) := by
  refine ⟨rfl, rfl, rfl, ?_, fun i hi => ?_⟩
  · show w.heap.size ≤ (w.heap ++ os).size
    rw [Array.size_append]; omega
  · show (w.heap ++ os)[i]? = w.heap[i]?
    exact Array.getElem?_append_left hi
theorem strconv_Itoa.calls (a0 : Int) (r : ByteArray) (w : World) (hG : LaidG 1 w) (h : strconv_Itoa.f a0 = some r) :
    Calls Tryd.prog 77 #[.int .i64 a0] w fun e w' => e = .returned (.string r) ∧ Below w.heap.size w w' := by
  unfold strconv_Itoa.f at h
  split at h
  · rename_i hb
    injection h with h
    subst h
    refine (Tryd.strconv_Itoa a0 hb.1 hb.2 w (hG.pow10 (by decide))).mono ?_
    rintro e w' ⟨rfl, k, os, rfl⟩
    exact ⟨rfl, grow_below w k os⟩
  · cases h

def strconv_Atoi.f (a0 : ByteArray) : Option (Int × Option Int) :=
  if a0.size ≤ 9223372036854775806 then (match Lib.atoiAll a0.data.toList with | .ok v => some (v, none) | _ => none) else none
theorem strconv_Atoi.calls (a0 : ByteArray) (r1 : Int) (r2 : Option Int) (w : World) (h : strconv_Atoi.f a0 = some (r1, r2)) :
    Calls Tryd.prog 85 #[.string a0] w fun e w' => e = .returned (.tuple #[.int .i64 r1, errW r2]) ∧ Below w.heap.size w w' := by
  unfold strconv_Atoi.f at h
  split at h
  · rename_i hb
    cases ha : Lib.atoiAll a0.data.toList with
    | ok v =>
      rw [ha] at h
      simp only [Option.some.injEq, Prod.mk.injEq] at h
      obtain ⟨rfl, rfl⟩ := h
      refine (Tryd.strconv_Atoi_ok a0 hb v ha w).mono ?_
      rintro e w' ⟨rfl, rfl | ⟨t, rfl⟩⟩
      · exact ⟨rfl, Below.refl _ _⟩
      · exact ⟨rfl, Lib.bytesWorld_below _ _ _⟩
    | _ => rw [ha] at h; cases h
  · cases h

end Go.Proofs.YtebcepbamlokcaaDoor.Q
namespace Go.Proofs.YtebcepbamlokcaaDoor.Q
open Go.RowKit Go.Proofs.YtebcepbamlokcaaDoorW.PrintWords Go.Proofs.YtebcepbamlokcaaDoorW.PrintLast
set_option linter.unusedVariables false
set_option linter.unusedSimpArgs false

theorem qQx4s0_ {P : Prop} (h : P := by repeat (first | exact Drawn0.refl _ | apply Drawn0.step)) : P := h
theorem qQx4s1_ {P : Prop} (h : P := by first | rfl | (simp; done) | (simp [*]; done)) : P := h
theorem qQx4s2_ {P : Prop} (h : P := by (try simp only [List.map_toArray, List.map_cons, List.map_nil]); first | done | rfl | (simp only [List.length_drop, List.length_take]; rfl)) : P := h
def impl_isLetter.f (a0 : Int) : Option (Bool) := if a0 ≥ 97 then (if a0 ≤ 122 then (some true) else (some (a0 == 95))) else (some (a0 == 95))
set_option maxHeartbeats 8000000 in
set_option maxRecDepth 100000 in
theorem impl_isLetter.calls (a0 : Int) (r : Bool) (w : World) (h : impl_isLetter.f a0 = some r) :
  Calls Tryd.prog 137 #[.int .u8 a0] w fun e w' => e = .returned (.bool r) ∧ Drawn0 w w' := by
 have H : (if a0 ≥ 97 then (if a0 ≤ 122 then (some true) else (some (a0 == 95))) else (some (a0 == 95))) = some r := h
 clear h
 by_cases c2 : a0 ≥ 97
 ·rw [if_pos c2] at H
  have c2b0 : decide (97 ≤ a0) = true := decide_eq_true c2
  clear c2
  by_cases c3 : a0 ≤ 122
  ·rw [if_pos c3] at H
   have c3b0 : decide (a0 ≤ 122) = true := decide_eq_true c3
   clear c3
   obtain rfl := Option.some.inj H
   go_enter Tryd.func137, Tryd.ntmps137
   go_wp2
   go_ret
   exact ⟨qQx4s1_, qQx4s0_⟩
  ·rw [if_neg c3] at H
   have c3b0 : decide (a0 ≤ 122) = false := decide_eq_false c3
   clear c3
   obtain rfl := Option.some.inj H
   go_enter Tryd.func137, Tryd.ntmps137
   go_wp2
   go_ret
   exact ⟨qQx4s1_, qQx4s0_⟩
 ·rw [if_neg c2] at H
  have c2b0 : decide (97 ≤ a0) = false := decide_eq_false c2
  clear c2
  obtain rfl := Option.some.inj H
  go_enter Tryd.func137, Tryd.ntmps137
  go_wp2
  go_ret
  exact ⟨qQx4s1_, qQx4s0_⟩

def impl_isFigure.f (a0 : Int) : Option (Bool) := if a0 ≥ 48 then (some (decide (a0 ≤ 57))) else (some false)
set_option maxHeartbeats 8000000 in
set_option maxRecDepth 100000 in
theorem impl_isFigure.calls (a0 : Int) (r : Bool) (w : World) (h : impl_isFigure.f a0 = some r) :
  Calls Tryd.prog 125 #[.int .u8 a0] w fun e w' => e = .returned (.bool r) ∧ Drawn0 w w' := by
 have H : (if a0 ≥ 48 then (some (decide (a0 ≤ 57))) else (some false)) = some r := h
 clear h
 by_cases c2 : a0 ≥ 48
 ·rw [if_pos c2] at H
  have c2b0 : decide (48 ≤ a0) = true := decide_eq_true c2
  clear c2
  obtain rfl := Option.some.inj H
  go_enter Tryd.func125, Tryd.ntmps125
  go_wp2
  go_ret
  exact ⟨qQx4s1_, qQx4s0_⟩
 ·rw [if_neg c2] at H
  have c2b0 : decide (48 ≤ a0) = false := decide_eq_false c2
  clear c2
  obtain rfl := Option.some.inj H
  go_enter Tryd.func125, Tryd.ntmps125
  go_wp2
  go_ret
  exact ⟨qQx4s1_, qQx4s0_⟩

def impl_inName.f (a0 : Int) : Option (Bool) := (impl_isLetter.f a0).bind fun t104 => (if t104 = true then (some true) else ((impl_isFigure.f a0).bind fun t105 => (some t105)))
set_option maxHeartbeats 8000000 in
set_option maxRecDepth 100000 in
theorem impl_inName.calls (a0 : Int) (r : Bool) (w : World) (h : impl_inName.f a0 = some r) :
  Calls Tryd.prog 139 #[.int .u8 a0] w fun e w' => e = .returned (.bool r) ∧ Drawn0 w w' := by
 have H : ((impl_isLetter.f a0).bind fun t104 => (if t104 = true then (some true) else ((impl_isFigure.f a0).bind fun t105 => (some t105)))) = some r := h
 clear h
 replace H := Option.bind_eq_some_iff.mp H
 obtain ⟨t104, A20, H⟩ := H
 replace H : (if t104 = true then (some true) else ((impl_isFigure.f a0).bind fun t105 => (some t105))) = some r := H
 have A2 := Aside0.mk A20
 clear A20
 by_cases c3 : t104 = true
 ·subst c3
  have H1 : (some true) = some r := by rw [if_pos rfl] at H; exact H
  clear H
  have H := H1
  clear H1
  obtain rfl := Option.some.inj H
  go_enter Tryd.func139, Tryd.ntmps139
  go_wp2_with (first | ((with_reducible refine gate_callee (f := 137) rfl ?_); refine goesL_ (some 4) rfl rfl Tryd.func137 (by kernel_rfl) rfl #[.int .u8 a0] rfl qQx4s2_ ?_; (with_reducible refine (impl_isLetter.calls a0 true _ A2.out).mono ?_); rintro e w' ⟨rfl, ⟨nd, rfl⟩⟩; refine ⟨_, rfl, ?_⟩))
  go_ret
  exact ⟨qQx4s1_, qQx4s0_⟩
 ·replace c3 := Bool.eq_false_iff.mpr c3
  subst c3
  have H1 : ((impl_isFigure.f a0).bind fun t105 => (some t105)) = some r := by rw [if_neg (show ¬ (false = true) by decide)] at H; exact H
  clear H
  have H := H1
  clear H1
  replace H := Option.bind_eq_some_iff.mp H
  obtain ⟨t105, A40, H⟩ := H
  replace H : (some t105) = some r := H
  have A4 := Aside0.mk A40
  clear A40
  obtain rfl := Option.some.inj H
  go_enter Tryd.func139, Tryd.ntmps139
  go_wp2_with (first | ((with_reducible refine gate_callee (f := 137) rfl ?_); refine goesL_ (some 4) rfl rfl Tryd.func137 (by kernel_rfl) rfl #[.int .u8 a0] rfl qQx4s2_ ?_; (with_reducible refine (impl_isLetter.calls a0 false _ A2.out).mono ?_); rintro e w' ⟨rfl, ⟨nd, rfl⟩⟩; refine ⟨_, rfl, ?_⟩) | (go_at_call 125; (with_reducible refine (impl_isFigure.calls a0 t105 _ A4.out).mono ?_); rintro e w' ⟨rfl, ⟨nd, rfl⟩⟩))
  go_ret
  exact ⟨qQx4s1_, qQx4s0_⟩

end Go.Proofs.YtebcepbamlokcaaDoor.Q
namespace Go.Proofs.YtebcepbamlokcaaDoor.Q
open Go.RowKit Go.Proofs.YtebcepbamlokcaaDoorW.PrintWords Go.Proofs.YtebcepbamlokcaaDoorW.PrintLast
set_option linter.unusedVariables false
set_option linter.unusedSimpArgs false

theorem qQx3s0_ {P : Prop} (h : P := by repeat (first | exact Drawn0.refl _ | apply Drawn0.step)) : P := h
theorem qQx3s1_ {P : Prop} (h : P := by first | rfl | (simp; done) | (simp [*]; done)) : P := h
theorem qQx3s2_ {P : Prop} (h : P := by first | (with_reducible assumption) | assumption) : P := h
def slices_Index_string_string.l0 : Nat → List ByteArray → ByteArray → Int → Int → Option (Int)
 | 0, _, _, _, _ => none
 | k + 1, x0, x1, x7, x8 => if x8 < x7 then (if 0 ≤ x8 then (if x8 < (x0.length : Int) then (if x1.toList = (rdOf ByteArray.empty x0 x8).toList then (some x8) else (slices_Index_string_string.l0 k x0 x1 x7 (wrap64 (x8 + 1)))) else (none)) else (none)) else (some (-1))
def slices_Index_string_string.f (k : Nat) (l0 : List ByteArray) (a1 : ByteArray) : Option (Int) := slices_Index_string_string.l0 k l0 a1 (l0.length : Int) 0
theorem slices_Index_string_string.mono_l : ∀ k, (∀ y0 y1 y2 y3, LeO (slices_Index_string_string.l0 k y0 y1 y2 y3) (slices_Index_string_string.l0 (k + 1) y0 y1 y2 y3))
 | 0 => fun _ _ _ _ r h => by simp [slices_Index_string_string.l0] at h
 | k + 1 => by
  have ih0 := slices_Index_string_string.mono_l k
  ·intro y0 y1 y2 y3
   unfold slices_Index_string_string.l0
   repeat' first
   | (with_reducible exact ih0 _ _ _ _)
   | (with_reducible exact LeO.refl _)
   | (with_reducible exact LeO.none _)
   | (with_reducible refine LeO.ite ?_ ?_)
   | (with_reducible refine LeO.bind ?_ (fun _ => ?_))
   | exact ih0 _ _ _ _
   | exact LeO.none _
   | refine LeO.ite ?_ ?_
   | refine LeO.bind ?_ (fun _ => ?_)
theorem slices_Index_string_string.mono : ∀ a0 a1 k, LeO (slices_Index_string_string.f k a0 a1) (slices_Index_string_string.f (k + 1) a0 a1) := by
 intro a0 a1 k
 have ih0 := slices_Index_string_string.mono_l k
 unfold slices_Index_string_string.f
 repeat' first
   | (with_reducible exact ih0 _ _ _ _)
   | (with_reducible exact LeO.refl _)
   | (with_reducible exact LeO.none _)
   | (with_reducible refine LeO.ite ?_ ?_)
   | (with_reducible refine LeO.bind ?_ (fun _ => ?_))
   | exact ih0 _ _ _ _
   | exact LeO.none _
   | refine LeO.ite ?_ ?_
   | refine LeO.bind ?_ (fun _ => ?_)
set_option maxHeartbeats 8000000 in
set_option maxRecDepth 100000 in
theorem slices_Index_string_string.calls (k : Nat) (A0 : Option Addr) (c0 : Nat) (l0 : List ByteArray) (a1 : ByteArray) (r : Int) (w : World) (hr0 : Kd.C Kd.string w A0 l0.length l0) (hc0 : l0.length ≤ c0) (h : slices_Index_string_string.f k l0 a1 = some r) :
  Calls Tryd.prog 95 #[.slice A0 l0.length c0, .string a1] w fun e w' => e = .returned (.int .i64 r) ∧ Drawn0 w w' := by
 have HR0 := Aside0.mk hr0
 have HC0 := Aside0.mk hc0
 clear hr0 hc0
 have H : (slices_Index_string_string.l0 k l0 a1 (l0.length : Int) 0) = some r := h
 clear h
 have H' := Aside0.mk H
 clear H
 go_enter Tryd.func95, Tryd.ntmps95
 go_wp2
 go_loopg [8] k (fun kq v8 w' => ∃ (x8_1 : Int), v8 = .int .i64 x8_1 ∧ Aside0 (slices_Index_string_string.l0 kq l0 a1 (l0.length : Int) x8_1 = some r) ∧ Aside0 (kq ≤ k) ∧ Drawn0 w w')
 case atStart => exact ⟨(0), qQx3s1_, H', ⟨Nat.le_refl _⟩, qQx3s0_⟩
 case round =>
  clear H'
  try clear p2
  obtain ⟨x8_1, rfl, HA, HK1, ⟨m1, rfl⟩⟩ := hrel
  cases gk with
  | zero => exact absurd HA.out (by simp [slices_Index_string_string.l0])
  | succ k1 =>
   have H := HA.out
   clear HA
   simp only [slices_Index_string_string.l0] at H
   by_cases c3 : x8_1 < (l0.length : Int)
   ·rw [if_pos c3] at H
    have c3b0 : decide (x8_1 < (l0.length : Int)) = true := decide_eq_true c3
    clear c3
    by_cases c4 : 0 ≤ x8_1
    ·rw [if_pos c4] at H
     have c4b0 : decide (0 ≤ x8_1) = true := decide_eq_true c4
     have c4q := c4
     clear c4
     by_cases c5 : x8_1 < (l0.length : Int)
     ·rw [if_pos c5] at H
      have c5b0 : decide (x8_1 < (l0.length : Int)) = true := decide_eq_true c5
      clear c5
      by_cases c6 : a1.toList = (rdOf ByteArray.empty l0 x8_1).toList
      ·rw [if_pos c6] at H
       have c6b0 : (a1.toList == (rdOf ByteArray.empty l0 x8_1).toList) = true := beq_iff_eq.mpr c6
       have c6b1 : (a1.toList != (rdOf ByteArray.empty l0 x8_1).toList) = false := bne_eq_false_iff_eq.mpr c6
       clear c6
       obtain rfl := Option.some.inj H
       have p102 : 0 ≤ (x8_1 : Int) := of_decide_eq_true qQx3s2_
       have q102 : x8_1 < (l0.length : Int) := of_decide_eq_true qQx3s2_
       obtain ⟨ad102, e102, hx102_0⟩ := Kd.at_string HR0.out x8_1 p102 q102
       cases e102
       replace p102 := eq_true p102
       replace q102 := eq_true q102
       go_wp2
       go_ret
       exact ⟨qQx3s1_, qQx3s0_⟩
      ·rw [if_neg c6] at H
       have c6b0 : (a1.toList == (rdOf ByteArray.empty l0 x8_1).toList) = false := beq_eq_false_iff_ne.mpr c6
       have c6b1 : (a1.toList != (rdOf ByteArray.empty l0 x8_1).toList) = true := bne_iff_ne.mpr c6
       have H' := Aside0.mk H
       clear H
       have p102 : 0 ≤ (x8_1 : Int) := of_decide_eq_true qQx3s2_
       have q102 : x8_1 < (l0.length : Int) := of_decide_eq_true qQx3s2_
       obtain ⟨ad102, e102, hx102_0⟩ := Kd.at_string HR0.out x8_1 p102 q102
       cases e102
       replace p102 := eq_true p102
       replace q102 := eq_true q102
       go_wp2
       go_roundg k1
       case measure => have := HK1.out; omega
       case rel => exact ⟨(wrap64 (x8_1 + 1)), qQx3s1_, H', ⟨by have := HK1.out; omega⟩, qQx3s0_⟩
     ·rw [if_neg c5] at H
      exact absurd H (by simp)
    ·rw [if_neg c4] at H
     exact absurd H (by simp)
   ·rw [if_neg c3] at H
    have c3b0 : decide (x8_1 < (l0.length : Int)) = false := decide_eq_false c3
    clear c3
    obtain rfl := Option.some.inj H
    go_wp2
    go_ret
    exact ⟨qQx3s1_, qQx3s0_⟩

def slices_Contains_string_string.f (k : Nat) (l0 : List ByteArray) (a1 : ByteArray) : Option (Bool) := (slices_Index_string_string.f k l0 a1).bind fun t103 => (some (decide (t103 ≥ 0)))
theorem slices_Contains_string_string.mono : ∀ a0 a1 k, LeO (slices_Contains_string_string.f k a0 a1) (slices_Contains_string_string.f (k + 1) a0 a1) := by
 intro a0 a1 k
 unfold slices_Contains_string_string.f
 repeat' first
   | (with_reducible exact slices_Index_string_string.mono _ _ _)
   | (with_reducible exact LeO.refl _)
   | (with_reducible exact LeO.none _)
   | (with_reducible refine LeO.ite ?_ ?_)
   | (with_reducible refine LeO.bind ?_ (fun _ => ?_))
   | exact slices_Index_string_string.mono _ _ _
   | exact LeO.none _
   | refine LeO.ite ?_ ?_
   | refine LeO.bind ?_ (fun _ => ?_)
set_option maxHeartbeats 8000000 in
set_option maxRecDepth 100000 in
theorem slices_Contains_string_string.calls (k : Nat) (A0 : Option Addr) (c0 : Nat) (l0 : List ByteArray) (a1 : ByteArray) (r : Bool) (w : World) (hr0 : Kd.C Kd.string w A0 l0.length l0) (hc0 : l0.length ≤ c0) (h : slices_Contains_string_string.f k l0 a1 = some r) :
  Calls Tryd.prog 111 #[.slice A0 l0.length c0, .string a1] w fun e w' => e = .returned (.bool r) ∧ Drawn0 w w' := by
 have HR0 := Aside0.mk hr0
 have HC0 := Aside0.mk hc0
 clear hr0 hc0
 have H : ((slices_Index_string_string.f k l0 a1).bind fun t103 => (some (decide (t103 ≥ 0)))) = some r := h
 clear h
 replace H := Option.bind_eq_some_iff.mp H
 obtain ⟨t103, A30, H⟩ := H
 replace H : (some (decide (t103 ≥ 0))) = some r := H
 have A3 := Aside0.mk A30
 clear A30
 obtain rfl := Option.some.inj H
 go_enter Tryd.func111, Tryd.ntmps111
 go_wp2_with (first | ((with_reducible refine gate_callee (f := 95) rfl ?_); refine goesL_ (some 7) rfl rfl Tryd.func95 (by kernel_rfl) rfl #[.slice A0 l0.length c0, .string a1] rfl (by (try simp only [List.map_toArray, List.map_cons, List.map_nil]); first | done | rfl | (simp only [List.length_drop, List.length_take]; rfl)) ?_; (with_reducible refine (slices_Index_string_string.calls k _ _ l0 a1 t103 _ ?side1 ?side2 A3.out).mono ?_); (case side1 => exact (by repeat (first | exact HR0.out | (with_reducible refine Kd.C_alloc ?_ _) | (with_reducible refine Kd.C_drewN ?_ _) | (with_reducible refine Kd.C_drew ?_)))); (case side2 => exact (by exact HC0.out)); rintro e w' ⟨rfl, ⟨nd, rfl⟩⟩; refine ⟨_, rfl, ?_⟩))
 go_ret
 exact ⟨qQx3s1_, qQx3s0_⟩

end Go.Proofs.YtebcepbamlokcaaDoor.Q
namespace Go.Proofs.YtebcepbamlokcaaDoor.Q
open Go.RowKit Go.Proofs.YtebcepbamlokcaaDoorW.PrintWords Go.Proofs.YtebcepbamlokcaaDoorW.PrintLast
set_option linter.unusedVariables false
set_option linter.unusedSimpArgs false

def letB (c : UInt8) : Bool := decide (97 ≤ (c.toNat : Int)) && decide ((c.toNat : Int) ≤ 122) || ((c.toNat : Int) == 95)
def figN (c : UInt8) : Bool := decide (48 ≤ (c.toNat : Int)) && decide ((c.toNat : Int) ≤ 57)
def nameB (c : UInt8) : Bool := letB c || figN c
theorem isLetter_is (c : UInt8) : impl_isLetter.f (c.toNat : Int) = some (letB c) := by
 unfold impl_isLetter.f letB
 by_cases h1 : (c.toNat : Int) ≥ 97
 ·by_cases h2 : (c.toNat : Int) ≤ 122
  ·rw [if_pos h1, if_pos h2, decide_eq_true h1, decide_eq_true h2]; rfl
  ·rw [if_pos h1, if_neg h2, decide_eq_false h2, Bool.and_false, Bool.false_or]
 ·rw [if_neg h1, decide_eq_false h1, Bool.false_and, Bool.false_or]
theorem isFigure_is (c : UInt8) : impl_isFigure.f (c.toNat : Int) = some (figN c) := by
 unfold impl_isFigure.f figN
 by_cases h1 : (c.toNat : Int) ≥ 48
 ·rw [if_pos h1, decide_eq_true h1, Bool.true_and]
 ·rw [if_neg h1, decide_eq_false h1, Bool.false_and]
theorem inName_is (c : UInt8) : impl_inName.f (c.toNat : Int) = some (nameB c) := by
 unfold impl_inName.f nameB
 rw [isLetter_is, Option.bind_some, isFigure_is]
 cases letB c <;> rfl

def runN (s : ByteArray) : Nat := (s.data.toList.takeWhile nameB).length
def runTo (s : ByteArray) (k : Nat) : Prop := ∀ c ∈ s.data.toList.take k, nameB c = true
theorem takeWhile_stop (l : List UInt8) (k : Nat) (h : ∀ c ∈ l.take k, nameB c = true) (he : k ≤ l.length) (hs : ∀ hk : k < l.length, nameB l[k] = false) : (l.takeWhile nameB).length = k := by
 induction l generalizing k with
 | nil => simp at he; subst he; rfl
 | cons c r ih =>
  cases k with
  | zero =>
   have := hs (by simp)
   rw [List.getElem_cons_zero] at this
   rw [List.takeWhile_cons, this]; rfl
  | succ k =>
   have hc : nameB c = true := h c (by simp)
   rw [List.takeWhile_cons, hc]
   simp only [if_true, List.length_cons]
   rw [ih k (fun x hx => h x (by rw [List.take_succ_cons]; exact List.mem_cons_of_mem _ hx)) (by simpa using he) (fun hk => by have := hs (by simpa using hk); rwa [List.getElem_cons_succ] at this)]
theorem runTo_zero (s : ByteArray) : runTo s 0 := by intro c hc; simp at hc
theorem runTo_succ {s : ByteArray} {k : Nat} (h : runTo s k) (hk : k < s.size) (hc : nameB s[k] = true) : runTo s (k + 1) := by
 intro c hcm
 rw [List.take_succ_eq_append_getElem (by simpa using hk)] at hcm
 rcases List.mem_append.1 hcm with h1 | h1
 ·exact h c h1
 ·rw [List.mem_singleton.1 h1]; exact hc
theorem runN_stop {s : ByteArray} {k : Nat} (h : runTo s k) (hk : k < s.size) (hc : nameB s[k] = false) : runN s = k :=
 takeWhile_stop _ k h (by simpa using Nat.le_of_lt hk) (fun _ => hc)
theorem runN_end {s : ByteArray} (h : runTo s s.size) : runN s = s.size :=
 takeWhile_stop _ s.size h (by simp) (fun hk => absurd hk (by simp))

set_option maxHeartbeats 1000000 in
theorem run_walk (s : ByteArray) (w : World) (hs : s.size ≤ 4611686018427387904) :
  Calls Tryd.prog 138 #[.string s, .int .i64 0, .func (.func 139) #[] #[]] w fun e w' => e = .returned (.int .i64 (runN s)) ∧ Below w.heap.size w w' := by
 go_enter Tryd.func138, Tryd.ntmps138
 go_wp2
 go_loopg [1] (s.size + 1) (fun kq v1 w' => ∃ k : Nat, k ≤ s.size ∧ kq + k = s.size + 1 ∧ v1 = .int .i64 k ∧ Aside0 (runTo s k) ∧ Aside0 (Below w.heap.size w w'))
 case atStart => exact ⟨0, Nat.zero_le _, (by omega), rfl, ⟨runTo_zero s⟩, ⟨(by repeat (first | exact Below.refl _ _ | apply pw_below_drewN | apply below_drew1))⟩⟩
 case round =>
  obtain ⟨k, hk, hkq, rfl, hR, HB⟩ := hrel
  by_cases hlt : k < s.size
  ·obtain ⟨b, hb⟩ : ∃ b, nameB s[k] = b := ⟨_, rfl⟩
   have HN : Aside0 (impl_inName.f ((s[k]).toNat : Int) = some b) := ⟨by rw [inName_is, hb]⟩
   have Hb := Aside0.mk hb
   clear hb
   cases b with
   | true =>
    go_wp2_with (first | (go_at_call 139; (with_reducible refine (impl_inName.calls _ _ _ HN.out).mono ?_); rintro e w1 ⟨rfl, ⟨n1, rfl⟩⟩))
    go_roundg (s.size - k)
    case measure => omega
    case rel => exact ⟨k + 1, (by omega), (by omega), (by go_num), ⟨runTo_succ hR.out hlt Hb.out⟩, ⟨pw_below_drewN HB.out _⟩⟩
   | false =>
    have HE : Aside0 (runN s = k) := ⟨runN_stop hR.out hlt Hb.out⟩
    go_wp2_with (first | (go_at_call 139; (with_reducible refine (impl_inName.calls _ _ _ HN.out).mono ?_); rintro e w1 ⟨rfl, ⟨n1, rfl⟩⟩))
    go_ret
    exact ⟨by rw [HE.out]; rfl, pw_below_drewN HB.out _⟩
  ·have HE : Aside0 (runN s = k) := ⟨by
    have e : k = s.size := by omega
    have := hR.out
    rw [e] at this ⊢
    exact runN_end this⟩
   go_wp2
   go_ret
   exact ⟨by rw [HE.out]; rfl, HB.out⟩

def allN (s : ByteArray) : Bool := s.data.toList.all nameB
def hasW (s : ByteArray) : Bool := wordsL.any (fun x => decide (s.toList = x.toList))
def nameOkB (s : ByteArray) : Bool := decide (0 < s.size) && decide (s.size ≤ 12) && (s.data.toList.head?.any letB) && allN s && !hasW s
def impl_NameOk.f (a0 : ByteArray) : Option Bool := some (nameOkB a0)

theorem runN_all (s : ByteArray) : ((runN s : Int) == (s.size : Int)) = allN s := by
 have hl : s.size = s.data.toList.length := by simp
 unfold runN allN
 rw [hl]
 generalize s.data.toList = l
 induction l with
 | nil => rfl
 | cons c r ih =>
  rw [List.takeWhile_cons, List.all_cons]
  cases nameB c with
  | false => rw [Bool.false_and]; simp; omega
  | true =>
   rw [Bool.true_and, ← ih]
   simp only [if_true, List.length_cons]
   rw [Bool.eq_iff_iff, beq_iff_eq, beq_iff_eq]
   omega
theorem index_is (x : ByteArray) (l : List ByteArray) (hl : l.length ≤ 1000) : ∀ (n i : Nat), i + n = l.length → ∀ k, n < k →
  ∃ r : Int, slices_Index_string_string.l0 k l x (l.length : Int) (i : Int) = some r ∧ decide (r ≥ 0) = (l.drop i).any (fun y => decide (x.toList = y.toList))
 | _, _, _, 0, hk => absurd hk (by omega)
 | 0, i, hi, k + 1, hk => by
  refine ⟨-1, ?_, ?_⟩
  ·rw [slices_Index_string_string.l0, if_neg (by omega)]
  ·rw [List.drop_of_length_le (by omega)]; rfl
 | n + 1, i, hi, k + 1, hk => by
  have hlt : i < l.length := by omega
  have e : rdOf ByteArray.empty l (i : Int) = l[i] := by
   unfold rdOf
   rw [Int.toNat_natCast, List.getD_eq_getElem?_getD, List.getElem?_eq_getElem hlt]; rfl
  rw [slices_Index_string_string.l0, if_pos (by omega), if_pos (by omega), if_pos (by omega), e, List.drop_eq_getElem_cons hlt, List.any_cons]
  by_cases hx : x.toList = l[i].toList
  ·rw [if_pos hx]
   refine ⟨i, rfl, ?_⟩
   rw [decide_eq_true hx, Bool.true_or]
   exact decide_eq_true (by omega)
  ·rw [if_neg hx, decide_eq_false hx, Bool.false_or]
   have hw : wrap64 ((i : Int) + 1) = ((i + 1 : Nat) : Int) := by unfold wrap64; omega
   rw [hw]
   exact index_is x l hl n (i + 1) (by omega) k (by omega)
theorem hasW_is (s : ByteArray) : slices_Contains_string_string.f 20 wordsL s = some (hasW s) := by
 obtain ⟨r, h1, h2⟩ := index_is s wordsL (by decide) 15 0 (by decide) 20 (by omega)
 unfold slices_Contains_string_string.f slices_Index_string_string.f
 rw [show ((0 : Nat) : Int) = 0 from rfl] at h1
 rw [h1, Option.bind_some, h2]
 rfl

theorem head_at {s : ByteArray} (h : 0 < s.size) : s.data.toList.head? = some (s[0]'h) := by
 have hl : 0 < s.data.toList.length := by simpa using h
 rw [List.head?_eq_getElem?, List.getElem?_eq_getElem hl]
 rfl

theorem has_calls (a0 : ByteArray) (w : World) (ad : Addr) (cap : Nat) (hC : Kd.C Kd.string w (some ad) 15 wordsL) (hcap : 15 ≤ cap) :
  Calls Tryd.prog 111 #[.slice (some ad) 15 cap, .string a0] w fun e w' => e = .returned (.bool (hasW a0)) ∧ Drawn0 w w' :=
 slices_Contains_string_string.calls 20 (some ad) cap wordsL a0 (hasW a0) w hC hcap (hasW_is a0)

set_option maxHeartbeats 4000000 in
theorem impl_NameOk.calls (a0 : ByteArray) (r : Bool) (w : World) (hG : LaidG 2 w) (h : impl_NameOk.f a0 = some r) :
  Calls Tryd.prog 106 #[.string a0] w fun e w' => e = .returned (.bool r) ∧ Below w.heap.size w w' := by
 unfold impl_NameOk.f at h
 obtain rfl := Option.some.inj h
 clear h
 have HB := Aside0.mk (Below.refl w.heap.size w)
 unfold nameOkB
 by_cases h0 : 0 < a0.size
 ·rw [decide_eq_true h0, Bool.true_and, head_at h0]
  have hne : (!a0.toList.isEmpty) = true := by
   rw [Lib.toList_data]
   cases hl : a0.data.toList with
   | nil => exact absurd h0 (by rw [Lib.size_eq, hl]; decide)
   | cons c r => rfl
  by_cases h12 : a0.size ≤ 12
  ·rw [decide_eq_true h12, Bool.true_and]
   obtain ⟨b, hb⟩ : ∃ b, letB (a0[0]'h0) = b := ⟨_, rfl⟩
   have HL : Aside0 (impl_isLetter.f ((a0[0]'h0).toNat : Int) = some b) := ⟨by rw [isLetter_is, hb]⟩
   rw [show (some (a0[0]'h0)).any letB = b from hb]
   clear hb
   cases b with
   | false =>
    clear hG
    go_enter Tryd.func106, Tryd.ntmps106
    go_wp2_with (first | (go_at_call 137; (with_reducible refine (impl_isLetter.calls _ _ _ HL.out).mono ?_); rintro e w1 ⟨rfl, ⟨n1, rfl⟩⟩))
    go_ret
    exact ⟨by rfl, pw_below_drewN HB.out _⟩
   | true =>
    rw [Bool.true_and]
    have HG := Aside0.mk hG
    clear hG
    have HS : Aside0 (a0.size ≤ 4611686018427387904) := ⟨by omega⟩
    obtain ⟨c, hc⟩ : ∃ c, allN a0 = c := ⟨_, rfl⟩
    have HA := Aside0.mk ((runN_all a0).trans hc)
    rw [hc]
    clear hc
    cases c with
    | false =>
     have hrun : ((runN a0 : Int) == (a0.size : Int)) = false := HA.out
     go_enter Tryd.func106, Tryd.ntmps106
     go_wp2_with (first | (go_at_call 137; (with_reducible refine (impl_isLetter.calls _ _ _ HL.out).mono ?_); rintro e w1 ⟨rfl, ⟨n1, rfl⟩⟩; have HB1 : Aside0 (Below w.heap.size w (w.drewN n1)) := ⟨pw_below_drewN HB.out n1⟩) | (go_at_call 138; (with_reducible refine (run_walk a0 _ HS.out).mono ?_); rintro e w2 ⟨rfl, hb⟩; have HB2 := at_step HB1 hb; clear hb))
     go_ret
     exact ⟨by rfl, HB2.out⟩
    | true =>
     have hrun : ((runN a0 : Int) == (a0.size : Int)) = true := HA.out
     rw [Bool.true_and]
     go_enter Tryd.func106, Tryd.ntmps106
     go_wp2_with (first | (go_at_call 137; (with_reducible refine (impl_isLetter.calls _ _ _ HL.out).mono ?_); rintro e w1 ⟨rfl, ⟨n1, rfl⟩⟩; have HB1 : Aside0 (Below w.heap.size w (w.drewN n1)) := ⟨pw_below_drewN HB.out n1⟩) | (go_at_call 138; (with_reducible refine (run_walk a0 _ HS.out).mono ?_); rintro e w2 ⟨rfl, hb⟩; have HB2 := at_step HB1 hb; clear hb; obtain ⟨ad, cap, hcell, hcap, hC⟩ := LaidG.words (LaidG.below (m := 2) (by decide) HG.out HB2.out) (by decide); have HCap := Aside0.mk hcap; have HK := Aside0.mk hC; clear hcap hC) | (go_at_call 111; (with_reducible refine (has_calls a0 _ _ _ HK.out HCap.out).mono ?_); rintro e w3 ⟨rfl, ⟨n3, rfl⟩⟩))
     go_ret
     exact ⟨by rfl, pw_below_drewN HB2.out _⟩
  ·clear hG
   have h12' : ¬ ((a0.size : Int) ≤ 12) := by omega
   rw [decide_eq_false h12, Bool.false_and, Bool.false_and, Bool.false_and]
   go_enter Tryd.func106, Tryd.ntmps106
   go_wp2
   go_ret
   exact ⟨by rfl, HB.out⟩
 ·clear hG
  rw [decide_eq_false h0, Bool.false_and, Bool.false_and, Bool.false_and, Bool.false_and]
  have hne : (!a0.toList.isEmpty) = false := by
   rw [Lib.toList_data]
   have : a0.data.toList = [] := List.eq_nil_of_length_eq_zero (by rw [← Lib.size_eq]; omega)
   rw [this]; rfl
  go_enter Tryd.func106, Tryd.ntmps106
  go_wp2
  go_ret
  exact ⟨by rfl, HB.out⟩
end Go.Proofs.YtebcepbamlokcaaDoor.Q
namespace Go.Proofs.YtebcepbamlokcaaDoor.Q
open Go.RowKit Go.Proofs.YtebcepbamlokcaaDoorW.PrintWords Go.Proofs.YtebcepbamlokcaaDoorW.PrintLast
set_option linter.unusedVariables false
set_option linter.unusedSimpArgs false

def atoiR (s : ByteArray) : Int × Bool := match Lib.atoiAll s.data.toList with | .ok v => (v, false) | .range => (Lib.atoiSat s.data.toList, true) | _ => (0, true)
theorem atoi_all.calls (s : ByteArray) (v : Int) (b : Bool) (w : World) (hs : s.size ≤ 281474976710656) (hG : LaidG 4 w) (h : atoiR s = (v, b)) :
    Calls Tryd.prog 85 #[.string s] w fun e w' => ∃ ev : Value, e = .returned (.tuple #[.int .i64 v, ev]) ∧ ((b = false → ev = .nilIface) ∧ (b = true → ∃ te pe, ev = .iface te pe)) ∧ Below w.heap.size w w' := by
  obtain ⟨⟨t1, p1, h1⟩, ⟨t2, p2, h2⟩⟩ := LaidG.errs hG (by decide)
  unfold atoiR at h
  cases ha : Lib.atoiAll s.data.toList with
  | ok v0 =>
    rw [ha] at h
    simp only [Prod.mk.injEq] at h
    obtain ⟨rfl, rfl⟩ := h
    refine (Tryd.strconv_Atoi_ok s (by omega) _ ha w).mono ?_
    rintro e w' ⟨rfl, hb⟩
    exact ⟨_, rfl, ⟨fun _ => rfl, fun h => by cases h⟩, by rcases hb with rfl | ⟨t, rfl⟩ <;> first | exact Below.refl _ _ | exact Lib.bytesWorld_below _ _ _⟩
  | range =>
    rw [ha] at h
    simp only [Prod.mk.injEq] at h
    obtain ⟨rfl, rfl⟩ := h
    refine (Tryd.strconv_Atoi_range s hs ha _ w h2 (.inr ⟨_, _, rfl⟩)).mono ?_
    rintro e w' ⟨n, rfl, _, _, hb⟩
    exact ⟨_, rfl, ⟨fun h => (by cases h), fun _ => ⟨_, _, rfl⟩⟩, hb⟩
  | _ =>
    rw [ha] at h
    simp only [Prod.mk.injEq] at h
    obtain ⟨rfl, rfl⟩ := h
    refine (Tryd.strconv_Atoi_syntax s hs ha _ w h1 (.inr ⟨_, _, rfl⟩)).mono ?_
    rintro e w' ⟨n, rfl, _, _, hb⟩
    exact ⟨_, rfl, ⟨fun h => (by cases h), fun _ => ⟨_, _, rfl⟩⟩, hb⟩

def idxI (x : ByteArray) : Nat → List ByteArray → Int
  | _, [] => -1
  | i, y :: r => if x.toList = y.toList then (i : Int) else idxI x (i + 1) r
theorem idxI_is (x : ByteArray) (l : List ByteArray) (hl : l.length ≤ 140737488355328) : ∀ (n i : Nat), i + n = l.length → ∀ k, n < k → slices_Index_string_string.l0 k l x (l.length : Int) (i : Int) = some (idxI x i (l.drop i))
  | _, _, _, 0, hk => absurd hk (by omega)
  | 0, i, hi, k + 1, hk => by
    rw [slices_Index_string_string.l0, if_neg (by omega), List.drop_of_length_le (by omega)]; rfl
  | n + 1, i, hi, k + 1, hk => by
    have hlt : i < l.length := by omega
    have e : rdOf ByteArray.empty l (i : Int) = l[i] := by
      unfold rdOf
      rw [Int.toNat_natCast, List.getD_eq_getElem?_getD, List.getElem?_eq_getElem hlt]; rfl
    rw [slices_Index_string_string.l0, if_pos (by omega), if_pos (by omega), if_pos (by omega), e, List.drop_eq_getElem_cons hlt, idxI]
    by_cases hx : x.toList = l[i].toList
    · rw [if_pos hx, if_pos hx]
    · have hw : wrap64 ((i : Int) + 1) = ((i + 1 : Nat) : Int) := by unfold wrap64; omega
      rw [if_neg hx, if_neg hx, hw]
      exact idxI_is x l hl n (i + 1) (by omega) k (by omega)
def placeB (kind : Int) (n : Nat) (s : ByteArray) : Int :=
  if kind = 5 ∧ (atoiR s).2 = false ∧ 0 ≤ (atoiR s).1 ∧ (atoiR s).1 < (n : Int) ∧ Lib.itoa (atoiR s).1 = s.toList then (atoiR s).1 else -1
def impl_Value_place.f (a0_0 : Int) (a0_1 : Int) (a0_2 : Int) (a0_3 : ByteArray) (l0_4 : List (S28)) (l0_5 : List ByteArray) (a1 : ByteArray) : Option Int :=
  if a0_0 = 6 then (if l0_5.length ≤ 140737488355328 then some (idxI a1 0 l0_5) else none)
  else if a1.size ≤ 281474976710656 ∧ l0_4.length ≤ 140737488355328 then some (placeB a0_0 l0_4.length a1) else none

set_option maxHeartbeats 8000000 in
set_option maxRecDepth 100000 in
theorem impl_Value_place.calls (a0_0 : Int) (a0_1 : Int) (a0_2 : Int) (a0_3 : ByteArray) (A0_4 : Option Addr) (c0_4 : Nat) (l0_4 : List (S28)) (A0_5 : Option Addr) (c0_5 : Nat) (l0_5 : List ByteArray) (a1 : ByteArray) (r : Int) (w : World) (hr0_4 : Kd.C k28 w A0_4 l0_4.length l0_4) (hc0_4 : l0_4.length ≤ c0_4) (hr0_5 : Kd.C Kd.string w A0_5 l0_5.length l0_5) (hc0_5 : l0_5.length ≤ c0_5) (hG : LaidG 13 w) (h : impl_Value_place.f a0_0 a0_1 a0_2 a0_3 l0_4 l0_5 a1 = some r) :
    Calls Tryd.prog 44 #[.agg #[.int .i64 a0_0, .int .i64 a0_1, .int .i64 a0_2, .string a0_3, .slice A0_4 l0_4.length c0_4, .slice A0_5 l0_5.length c0_5], .string a1] w fun e w' => e = .returned (.int .i64 r) ∧ Below w.heap.size w w' := by
  have hu28 := Tryd.underlying28
  have HR0_5 := Aside0.mk hr0_5
  have HC0_5 := Aside0.mk hc0_5
  have HG := Aside0.mk hG
  have HB := Aside0.mk (Below.refl w.heap.size w)
  clear hr0_4 hc0_4 hr0_5 hc0_5 hG
  unfold impl_Value_place.f at h
  by_cases h6 : a0_0 = 6
  · rw [if_pos h6] at h
    have h6b : (a0_0 == 6) = true := beq_iff_eq.mpr h6
    by_cases hl : l0_5.length ≤ 140737488355328
    · rw [if_pos hl] at h
      obtain rfl := Option.some.inj h
      have HX : Aside0 (slices_Index_string_string.f (l0_5.length + 1) l0_5 a1 = some (idxI a1 0 l0_5)) := ⟨idxI_is a1 l0_5 hl l0_5.length 0 (by omega) (l0_5.length + 1) (by omega)⟩
      clear h hl
      go_enter Tryd.func44, Tryd.ntmps44
      go_wp2_with (first | ((with_reducible refine gate_dst (N := 2) rfl ?_); refine box_event ?hg (N := 2) ?hd (cs := #[.int .i64 a0_0, .int .i64 a0_1, .int .i64 a0_2, .string a0_3, .slice A0_4 l0_4.length c0_4, .slice A0_5 l0_5.length c0_5]) (t := 28) ?hr ?_; (case hd => rfl); (case hg => rfl); (case hr => first | (go_simp; done) | (go_simp; rfl)); intro gx hg w1 hbox hbl; have HB1 := Aside0.mk (below_step HB.out hbl); have BK1 := Aside0.mk hbox; clear hbl hbox hg; have hz0_ : w1.cell? ⟨gx, 0, none⟩ = some (.int .i64 a0_0) := (blk_cell BK1.out 0).trans rfl; have hz4_ : w1.cell? ⟨gx, 4, none⟩ = some (.slice A0_4 l0_4.length c0_4) := (blk_cell BK1.out 4).trans rfl; have hz5_ : w1.cell? ⟨gx, 5, none⟩ = some (.slice A0_5 l0_5.length c0_5) := (blk_cell BK1.out 5).trans rfl) | (go_at_call 95; (with_reducible refine (slices_Index_string_string.calls _ _ _ l0_5 a1 _ _ (Kd.C_below HR0_5.out HB1.out) HC0_5.out HX.out).mono ?_); rintro e w2 ⟨rfl, ⟨n2, rfl⟩⟩))
      go_ret
      exact ⟨by first | rfl | (simp; done), pw_below_drewN HB1.out _⟩
    · rw [if_neg hl] at h; cases h
  · rw [if_neg h6] at h
    have h6b : (a0_0 == 6) = false := beq_eq_false_iff_ne.mpr h6
    by_cases hs : a1.size ≤ 281474976710656 ∧ l0_4.length ≤ 140737488355328
    · rw [if_pos hs] at h
      obtain rfl := Option.some.inj h
      clear h
      have HS := Aside0.mk hs.1
      have HL := Aside0.mk hs.2
      clear hs
      obtain ⟨⟨v, b⟩, ha⟩ : ∃ r, atoiR a1 = r := ⟨_, rfl⟩
      have HA := Aside0.mk ha
      unfold placeB
      rw [ha]
      clear ha
      simp only
      cases b with
      | true =>
        rw [if_neg (by rintro ⟨_, h2, _⟩; cases h2)]
        by_cases h5 : a0_0 = 5
        · have h5b : (a0_0 == 5) = true := beq_iff_eq.mpr h5
          have h5c : (a0_0 != 5) = false := bne_eq_false_iff_eq.mpr h5
          go_enter Tryd.func44, Tryd.ntmps44
          go_wp2_with (first | ((with_reducible refine gate_dst (N := 2) rfl ?_); refine box_event ?hg (N := 2) ?hd (cs := #[.int .i64 a0_0, .int .i64 a0_1, .int .i64 a0_2, .string a0_3, .slice A0_4 l0_4.length c0_4, .slice A0_5 l0_5.length c0_5]) (t := 28) ?hr ?_; (case hd => rfl); (case hg => rfl); (case hr => first | (go_simp; done) | (go_simp; rfl)); intro gx hg w1 hbox hbl; have HB1 := Aside0.mk (below_step HB.out hbl); have BK1 := Aside0.mk hbox; clear hbl hbox hg; have hz0_ : w1.cell? ⟨gx, 0, none⟩ = some (.int .i64 a0_0) := (blk_cell BK1.out 0).trans rfl; have hz4_ : w1.cell? ⟨gx, 4, none⟩ = some (.slice A0_4 l0_4.length c0_4) := (blk_cell BK1.out 4).trans rfl; have hz5_ : w1.cell? ⟨gx, 5, none⟩ = some (.slice A0_5 l0_5.length c0_5) := (blk_cell BK1.out 5).trans rfl) | (go_at_call 85; refine (atoi_all.calls a1 v _ _ HS.out (LaidG.below (m := 4) (by decide) HG.out HB1.out) HA.out).mono ?_; rintro e w2 ⟨ev, rfl, hev, hbl⟩; have HB2 := at_step HB1 hbl; have BK2 := Aside0.mk (blk_below BK1.out hbl); clear hbl; have hy0_ : w2.cell? ⟨gx, 0, none⟩ = some (.int .i64 a0_0) := (blk_cell BK2.out 0).trans rfl; have hy4_ : w2.cell? ⟨gx, 4, none⟩ = some (.slice A0_4 l0_4.length c0_4) := (blk_cell BK2.out 4).trans rfl; obtain ⟨te, pe, rfl⟩ := hev.2 rfl))
          go_ret
          exact ⟨by first | rfl | (simp; done), HB2.out⟩
        · have h5b : (a0_0 == 5) = false := beq_eq_false_iff_ne.mpr h5
          have h5c : (a0_0 != 5) = true := bne_iff_ne.mpr h5
          go_enter Tryd.func44, Tryd.ntmps44
          go_wp2_with (first | ((with_reducible refine gate_dst (N := 2) rfl ?_); refine box_event ?hg (N := 2) ?hd (cs := #[.int .i64 a0_0, .int .i64 a0_1, .int .i64 a0_2, .string a0_3, .slice A0_4 l0_4.length c0_4, .slice A0_5 l0_5.length c0_5]) (t := 28) ?hr ?_; (case hd => rfl); (case hg => rfl); (case hr => first | (go_simp; done) | (go_simp; rfl)); intro gx hg w1 hbox hbl; have HB1 := Aside0.mk (below_step HB.out hbl); have BK1 := Aside0.mk hbox; clear hbl hbox hg; have hz0_ : w1.cell? ⟨gx, 0, none⟩ = some (.int .i64 a0_0) := (blk_cell BK1.out 0).trans rfl; have hz4_ : w1.cell? ⟨gx, 4, none⟩ = some (.slice A0_4 l0_4.length c0_4) := (blk_cell BK1.out 4).trans rfl; have hz5_ : w1.cell? ⟨gx, 5, none⟩ = some (.slice A0_5 l0_5.length c0_5) := (blk_cell BK1.out 5).trans rfl) | (go_at_call 85; refine (atoi_all.calls a1 v _ _ HS.out (LaidG.below (m := 4) (by decide) HG.out HB1.out) HA.out).mono ?_; rintro e w2 ⟨ev, rfl, hev, hbl⟩; have HB2 := at_step HB1 hbl; have BK2 := Aside0.mk (blk_below BK1.out hbl); clear hbl; have hy0_ : w2.cell? ⟨gx, 0, none⟩ = some (.int .i64 a0_0) := (blk_cell BK2.out 0).trans rfl; have hy4_ : w2.cell? ⟨gx, 4, none⟩ = some (.slice A0_4 l0_4.length c0_4) := (blk_cell BK2.out 4).trans rfl; obtain ⟨te, pe, rfl⟩ := hev.2 rfl))
          go_ret
          exact ⟨by first | rfl | (simp; done), HB2.out⟩
      | false =>
        by_cases h5 : a0_0 = 5
        · have h5b : (a0_0 == 5) = true := beq_iff_eq.mpr h5
          have h5c : (a0_0 != 5) = false := bne_eq_false_iff_eq.mpr h5
          by_cases h0 : v < 0
          · rw [if_neg (by rintro ⟨_, _, h3, _⟩; omega)]
            have h0b : decide (v < 0) = true := decide_eq_true h0
            go_enter Tryd.func44, Tryd.ntmps44
            go_wp2_with (first | ((with_reducible refine gate_dst (N := 2) rfl ?_); refine box_event ?hg (N := 2) ?hd (cs := #[.int .i64 a0_0, .int .i64 a0_1, .int .i64 a0_2, .string a0_3, .slice A0_4 l0_4.length c0_4, .slice A0_5 l0_5.length c0_5]) (t := 28) ?hr ?_; (case hd => rfl); (case hg => rfl); (case hr => first | (go_simp; done) | (go_simp; rfl)); intro gx hg w1 hbox hbl; have HB1 := Aside0.mk (below_step HB.out hbl); have BK1 := Aside0.mk hbox; clear hbl hbox hg; have hz0_ : w1.cell? ⟨gx, 0, none⟩ = some (.int .i64 a0_0) := (blk_cell BK1.out 0).trans rfl; have hz4_ : w1.cell? ⟨gx, 4, none⟩ = some (.slice A0_4 l0_4.length c0_4) := (blk_cell BK1.out 4).trans rfl; have hz5_ : w1.cell? ⟨gx, 5, none⟩ = some (.slice A0_5 l0_5.length c0_5) := (blk_cell BK1.out 5).trans rfl) | (go_at_call 85; refine (atoi_all.calls a1 v _ _ HS.out (LaidG.below (m := 4) (by decide) HG.out HB1.out) HA.out).mono ?_; rintro e w2 ⟨ev, rfl, hev, hbl⟩; have HB2 := at_step HB1 hbl; have BK2 := Aside0.mk (blk_below BK1.out hbl); clear hbl; have hy0_ : w2.cell? ⟨gx, 0, none⟩ = some (.int .i64 a0_0) := (blk_cell BK2.out 0).trans rfl; have hy4_ : w2.cell? ⟨gx, 4, none⟩ = some (.slice A0_4 l0_4.length c0_4) := (blk_cell BK2.out 4).trans rfl; obtain rfl : ev = .nilIface := hev.1 rfl))
            go_ret
            exact ⟨by first | rfl | (simp; done), HB2.out⟩
          · have h0b : decide (v < 0) = false := decide_eq_false h0
            by_cases h1 : v ≥ (l0_4.length : Int)
            · rw [if_neg (by rintro ⟨_, _, _, h3, _⟩; omega)]
              have h1b : decide ((l0_4.length : Int) ≤ v) = true := decide_eq_true h1
              go_enter Tryd.func44, Tryd.ntmps44
              go_wp2_with (first | ((with_reducible refine gate_dst (N := 2) rfl ?_); refine box_event ?hg (N := 2) ?hd (cs := #[.int .i64 a0_0, .int .i64 a0_1, .int .i64 a0_2, .string a0_3, .slice A0_4 l0_4.length c0_4, .slice A0_5 l0_5.length c0_5]) (t := 28) ?hr ?_; (case hd => rfl); (case hg => rfl); (case hr => first | (go_simp; done) | (go_simp; rfl)); intro gx hg w1 hbox hbl; have HB1 := Aside0.mk (below_step HB.out hbl); have BK1 := Aside0.mk hbox; clear hbl hbox hg; have hz0_ : w1.cell? ⟨gx, 0, none⟩ = some (.int .i64 a0_0) := (blk_cell BK1.out 0).trans rfl; have hz4_ : w1.cell? ⟨gx, 4, none⟩ = some (.slice A0_4 l0_4.length c0_4) := (blk_cell BK1.out 4).trans rfl; have hz5_ : w1.cell? ⟨gx, 5, none⟩ = some (.slice A0_5 l0_5.length c0_5) := (blk_cell BK1.out 5).trans rfl) | (go_at_call 85; refine (atoi_all.calls a1 v _ _ HS.out (LaidG.below (m := 4) (by decide) HG.out HB1.out) HA.out).mono ?_; rintro e w2 ⟨ev, rfl, hev, hbl⟩; have HB2 := at_step HB1 hbl; have BK2 := Aside0.mk (blk_below BK1.out hbl); clear hbl; have hy0_ : w2.cell? ⟨gx, 0, none⟩ = some (.int .i64 a0_0) := (blk_cell BK2.out 0).trans rfl; have hy4_ : w2.cell? ⟨gx, 4, none⟩ = some (.slice A0_4 l0_4.length c0_4) := (blk_cell BK2.out 4).trans rfl; obtain rfl : ev = .nilIface := hev.1 rfl))
              go_ret
              exact ⟨by first | rfl | (simp; done), HB2.out⟩
            · have h1b : decide ((l0_4.length : Int) ≤ v) = false := decide_eq_false h1
              have HI : Aside0 (strconv_Itoa.f v = some ⟨(Lib.itoa v).toArray⟩) := ⟨by unfold strconv_Itoa.f; have := HL.out; rw [if_pos (by omega)]⟩
              have hit : (⟨(Lib.itoa v).toArray⟩ : ByteArray).toList = Lib.itoa v := by rw [Lib.toList_data]
              by_cases h2 : Lib.itoa v = a1.toList
              · rw [if_pos ⟨h5, rfl, by omega, by omega, h2⟩]
                have h2b : (Lib.itoa v == a1.toList) = true := beq_iff_eq.mpr h2
                have h2c : (!Lib.itoa v == a1.toList) = false := by rw [h2b]; rfl
                clear hit h2
                go_enter Tryd.func44, Tryd.ntmps44
                go_wp2_with (first | ((with_reducible refine gate_dst (N := 2) rfl ?_); refine box_event ?hg (N := 2) ?hd (cs := #[.int .i64 a0_0, .int .i64 a0_1, .int .i64 a0_2, .string a0_3, .slice A0_4 l0_4.length c0_4, .slice A0_5 l0_5.length c0_5]) (t := 28) ?hr ?_; (case hd => rfl); (case hg => rfl); (case hr => first | (go_simp; done) | (go_simp; rfl)); intro gx hg w1 hbox hbl; have HB1 := Aside0.mk (below_step HB.out hbl); have BK1 := Aside0.mk hbox; clear hbl hbox hg; have hz0_ : w1.cell? ⟨gx, 0, none⟩ = some (.int .i64 a0_0) := (blk_cell BK1.out 0).trans rfl; have hz4_ : w1.cell? ⟨gx, 4, none⟩ = some (.slice A0_4 l0_4.length c0_4) := (blk_cell BK1.out 4).trans rfl; have hz5_ : w1.cell? ⟨gx, 5, none⟩ = some (.slice A0_5 l0_5.length c0_5) := (blk_cell BK1.out 5).trans rfl) | (go_at_call 85; refine (atoi_all.calls a1 v _ _ HS.out (LaidG.below (m := 4) (by decide) HG.out HB1.out) HA.out).mono ?_; rintro e w2 ⟨ev, rfl, hev, hbl⟩; have HB2 := at_step HB1 hbl; have BK2 := Aside0.mk (blk_below BK1.out hbl); clear hbl; have hy0_ : w2.cell? ⟨gx, 0, none⟩ = some (.int .i64 a0_0) := (blk_cell BK2.out 0).trans rfl; have hy4_ : w2.cell? ⟨gx, 4, none⟩ = some (.slice A0_4 l0_4.length c0_4) := (blk_cell BK2.out 4).trans rfl; obtain rfl : ev = .nilIface := hev.1 rfl) | (go_at_call 77; (with_reducible refine (strconv_Itoa.calls _ _ _ (LaidG.below (m := 1) (by decide) HG.out HB2.out) HI.out).mono ?_); rintro e w3 ⟨rfl, hbl⟩; have HB3 := at_step HB2 hbl; clear hbl))
                go_ret
                exact ⟨by first | rfl | (simp; done), HB3.out⟩
              · rw [if_neg (by rintro ⟨_, _, _, _, h3⟩; exact h2 h3)]
                have h2b : (Lib.itoa v == a1.toList) = false := beq_eq_false_iff_ne.mpr h2
                have h2c : (!Lib.itoa v == a1.toList) = true := by rw [h2b]; rfl
                clear hit h2
                go_enter Tryd.func44, Tryd.ntmps44
                go_wp2_with (first | ((with_reducible refine gate_dst (N := 2) rfl ?_); refine box_event ?hg (N := 2) ?hd (cs := #[.int .i64 a0_0, .int .i64 a0_1, .int .i64 a0_2, .string a0_3, .slice A0_4 l0_4.length c0_4, .slice A0_5 l0_5.length c0_5]) (t := 28) ?hr ?_; (case hd => rfl); (case hg => rfl); (case hr => first | (go_simp; done) | (go_simp; rfl)); intro gx hg w1 hbox hbl; have HB1 := Aside0.mk (below_step HB.out hbl); have BK1 := Aside0.mk hbox; clear hbl hbox hg; have hz0_ : w1.cell? ⟨gx, 0, none⟩ = some (.int .i64 a0_0) := (blk_cell BK1.out 0).trans rfl; have hz4_ : w1.cell? ⟨gx, 4, none⟩ = some (.slice A0_4 l0_4.length c0_4) := (blk_cell BK1.out 4).trans rfl; have hz5_ : w1.cell? ⟨gx, 5, none⟩ = some (.slice A0_5 l0_5.length c0_5) := (blk_cell BK1.out 5).trans rfl) | (go_at_call 85; refine (atoi_all.calls a1 v _ _ HS.out (LaidG.below (m := 4) (by decide) HG.out HB1.out) HA.out).mono ?_; rintro e w2 ⟨ev, rfl, hev, hbl⟩; have HB2 := at_step HB1 hbl; have BK2 := Aside0.mk (blk_below BK1.out hbl); clear hbl; have hy0_ : w2.cell? ⟨gx, 0, none⟩ = some (.int .i64 a0_0) := (blk_cell BK2.out 0).trans rfl; have hy4_ : w2.cell? ⟨gx, 4, none⟩ = some (.slice A0_4 l0_4.length c0_4) := (blk_cell BK2.out 4).trans rfl; obtain rfl : ev = .nilIface := hev.1 rfl) | (go_at_call 77; (with_reducible refine (strconv_Itoa.calls _ _ _ (LaidG.below (m := 1) (by decide) HG.out HB2.out) HI.out).mono ?_); rintro e w3 ⟨rfl, hbl⟩; have HB3 := at_step HB2 hbl; clear hbl))
                go_ret
                exact ⟨by first | rfl | (simp; done), HB3.out⟩
        · rw [if_neg (by rintro ⟨h3, _⟩; exact h5 h3)]
          have h5b : (a0_0 == 5) = false := beq_eq_false_iff_ne.mpr h5
          have h5c : (a0_0 != 5) = true := bne_iff_ne.mpr h5
          go_enter Tryd.func44, Tryd.ntmps44
          go_wp2_with (first | ((with_reducible refine gate_dst (N := 2) rfl ?_); refine box_event ?hg (N := 2) ?hd (cs := #[.int .i64 a0_0, .int .i64 a0_1, .int .i64 a0_2, .string a0_3, .slice A0_4 l0_4.length c0_4, .slice A0_5 l0_5.length c0_5]) (t := 28) ?hr ?_; (case hd => rfl); (case hg => rfl); (case hr => first | (go_simp; done) | (go_simp; rfl)); intro gx hg w1 hbox hbl; have HB1 := Aside0.mk (below_step HB.out hbl); have BK1 := Aside0.mk hbox; clear hbl hbox hg; have hz0_ : w1.cell? ⟨gx, 0, none⟩ = some (.int .i64 a0_0) := (blk_cell BK1.out 0).trans rfl; have hz4_ : w1.cell? ⟨gx, 4, none⟩ = some (.slice A0_4 l0_4.length c0_4) := (blk_cell BK1.out 4).trans rfl; have hz5_ : w1.cell? ⟨gx, 5, none⟩ = some (.slice A0_5 l0_5.length c0_5) := (blk_cell BK1.out 5).trans rfl) | (go_at_call 85; refine (atoi_all.calls a1 v _ _ HS.out (LaidG.below (m := 4) (by decide) HG.out HB1.out) HA.out).mono ?_; rintro e w2 ⟨ev, rfl, hev, hbl⟩; have HB2 := at_step HB1 hbl; have BK2 := Aside0.mk (blk_below BK1.out hbl); clear hbl; have hy0_ : w2.cell? ⟨gx, 0, none⟩ = some (.int .i64 a0_0) := (blk_cell BK2.out 0).trans rfl; have hy4_ : w2.cell? ⟨gx, 4, none⟩ = some (.slice A0_4 l0_4.length c0_4) := (blk_cell BK2.out 4).trans rfl; obtain rfl : ev = .nilIface := hev.1 rfl))
          go_ret
          exact ⟨by first | rfl | (simp; done), HB2.out⟩
    · rw [if_neg hs] at h; cases h
end Go.Proofs.YtebcepbamlokcaaDoor.Q
namespace Go.Proofs.YtebcepbamlokcaaDoor.Q
open Go.RowKit Go.Proofs.YtebcepbamlokcaaDoorW.PrintWords Go.Proofs.YtebcepbamlokcaaDoorW.PrintLast
set_option linter.unusedVariables false
set_option linter.unusedSimpArgs false

theorem add_mid (b j : Nat) : (⟨b, 0, none⟩ : Addr).add j = ⟨b, j, none⟩ := by unfold Addr.add; split <;> simp_all
def NRow (w : World) (A : Option Addr) (ns : List ByteArray) (fp : List Nat) : Prop :=
  (ns = [] ∧ fp = []) ∨ ∃ (b : Nat) (cs : Array Value), A = some ⟨b, 0, none⟩ ∧ fp = [b] ∧ w.heap[b]? = some (.cells cs 9 (0, 0)) ∧ ns.length ≤ cs.size ∧ ∀ (i : Nat) (s : ByteArray), ns[i]? = some s → cs[i]? = some (Value.string s)

def VItem (R : World → Option Addr → List S28 → List Nat → Prop) (w : World) (g : Nat → Option Value) (o : Nat) (x : S28) (f : List Nat) : Prop :=
  ∃ A4 c4 A5 c5 f4 f5, f = f4 ++ f5 ∧ g o = some (.int .i64 x.f0) ∧ g (o + 1) = some (.int .i64 x.f1.f0) ∧ g (o + 2) = some (.int .i64 x.f1.f1) ∧ g (o + 3) = some (.string x.f2) ∧
    g (o + 4) = some (.slice A4 x.f3.length c4) ∧ g (o + 5) = some (.slice A5 x.f4.length c5) ∧ x.f3.length ≤ c4 ∧ x.f4.length ≤ c5 ∧ R w A4 x.f3 f4 ∧ NRow w A5 x.f4 f5

def VItems (R : World → Option Addr → List S28 → List Nat → Prop) (w : World) (g : Nat → Option Value) (xs : List S28) (fps : List (List Nat)) : Prop :=
  fps.length = xs.length ∧ ∀ i x f, xs[i]? = some x → fps[i]? = some f → VItem R w g (i * 6) x f

def VRow : Nat → World → Option Addr → List S28 → List Nat → Prop
  | 0, _, _, xs, fp => xs = [] ∧ fp = []
  | d + 1, w, A, xs, fp => (xs = [] ∧ fp = []) ∨ ∃ (b : Nat) (cs : Array Value) (fps : List (List Nat)), A = some ⟨b, 0, none⟩ ∧ fp = b :: fps.flatten ∧ w.heap[b]? = some (.cells cs 28 (0, 0)) ∧ xs.length * 6 ≤ cs.size ∧ VItems (VRow d) w (fun j => cs[j]?) xs fps

def Same (w w1 : World) (fp : List Nat) : Prop := ∀ b ∈ fp, w1.heap[b]? = w.heap[b]?
theorem Same.left {w w1 : World} {a b : List Nat} (h : Same w w1 (a ++ b)) : Same w w1 a := fun k hk => h k (List.mem_append_left _ hk)
theorem Same.right {w w1 : World} {a b : List Nat} (h : Same w w1 (a ++ b)) : Same w w1 b := fun k hk => h k (List.mem_append_right _ hk)
theorem Same.below {w w1 : World} {fp : List Nat} (h : ∀ b ∈ fp, b < w.heap.size) (hb : Below w.heap.size w w1) : Same w w1 fp := fun b hm => hb.block b (h b hm)
theorem Same.kept {w w1 : World} {fp : List Nat} {S : Nat → Prop} (h : ∀ b ∈ fp, b < w.heap.size) (hk : Kept w w1 S) (hn : ∀ b ∈ fp, ¬ S b) : Same w w1 fp := fun b hm => hk.2 b (h b hm) (hn b hm)

theorem NRow.same {w w1 : World} {A : Option Addr} {ns : List ByteArray} {fp : List Nat} (h : NRow w A ns fp) (hs : Same w w1 fp) : NRow w1 A ns fp := by
  rcases h with h | ⟨b, cs, hA, rfl, hb, hl, hc⟩
  · exact .inl h
  · exact .inr ⟨b, cs, hA, rfl, (hs b (by simp)).trans hb, hl, hc⟩
theorem NRow.lt {w : World} {A : Option Addr} {ns : List ByteArray} {fp : List Nat} (h : NRow w A ns fp) : ∀ b ∈ fp, b < w.heap.size := by
  rcases h with ⟨_, rfl⟩ | ⟨b, cs, hA, rfl, hb, hl, hc⟩
  · simp
  · intro k hk
    obtain rfl := List.mem_singleton.1 hk
    exact blk_lt hb
theorem NRow.reads {w : World} {A : Option Addr} {ns : List ByteArray} {fp : List Nat} (h : NRow w A ns fp) (hn : ns.length ≤ 9223372036854775807) : Kd.C Kd.string w A ns.length ns := by
  refine ⟨rfl, hn, fun hp => ?_⟩
  rcases h with ⟨rfl, _⟩ | ⟨b, cs, hA, rfl, hb, hl, hc⟩
  · simp at hp
  · refine ⟨_, hA, fun j s hj => ⟨[.string s], rfl, rfl, fun i u hu => ?_⟩⟩
    have hi : i = 0 := by have := (List.getElem?_eq_some_iff.1 hu).1; simpa using this
    subst hi
    obtain rfl : u = .string s := by simpa using hu.symm
    have ha : (⟨b, 0, none⟩ : Addr).add (j * 1 + 0) = ⟨b, j, none⟩ := by rw [add_mid, Nat.mul_one, Nat.add_zero]
    show w.cell? ((⟨b, 0, none⟩ : Addr).add (j * 1 + 0)) = _
    rw [ha, blk_cell hb]
    exact hc j s hj

theorem fro_same {w w1 : World} {b : Nat} (h : w1.heap[b]? = w.heap[b]?) (i : Nat) : w1.frozen? ⟨b, i, none⟩ = w.frozen? ⟨b, i, none⟩ := by simp [World.frozen?, h]
theorem NRow.put {w : World} {b : Nat} {ns : List ByteArray} {fp : List Nat} (h : NRow w (some ⟨b, 0, none⟩) ns fp) (hn : 0 < ns.length) (i : Nat) (s : ByteArray) :
    NRow (w.setCell ⟨b, i, none⟩ (.string s)) (some ⟨b, 0, none⟩) (ns.set i s) fp := by
  rcases h with ⟨rfl, _⟩ | ⟨b', cs, hA, rfl, hb, hl, hc⟩
  · simp at hn
  · obtain rfl : b = b' := by injection hA with h; injection h
    refine .inr ⟨b, _, rfl, rfl, blk_set hb i _, by simpa using hl, fun j u hu => ?_⟩
    by_cases hj : j = i
    · subst hj
      have hjl : j < ns.length := by have := (List.getElem?_eq_some_iff.1 hu).1; simpa using this
      rw [List.getElem?_set_self hjl] at hu
      rw [Array.getElem?_setIfInBounds_self_of_lt (by omega), ← Option.some.inj hu]
    · rw [List.getElem?_set_ne (fun e => hj e.symm)] at hu
      rw [Array.getElem?_setIfInBounds_ne (fun e => hj e.symm)]
      exact hc j u hu
theorem NRow.cell {w : World} {A : Option Addr} {ns : List ByteArray} {fp : List Nat} (h : NRow w A ns fp) (i : Int) (h0 : 0 ≤ i) (hi : i < (ns.length : Int)) :
    ∃ b, A = some ⟨b, 0, none⟩ ∧ fp = [b] ∧ b < w.heap.size ∧ w.cell? ⟨b, i.toNat, none⟩ = some (.string (rdOf ByteArray.empty ns i)) ∧ w.frozen? ⟨b, i.toNat, none⟩ = false := by
  rcases h with ⟨rfl, _⟩ | ⟨b, cs, hA, hf, hb, hl, hc⟩
  · simp at hi; omega
  · have hil : i.toNat < ns.length := by omega
    refine ⟨b, hA, hf, blk_lt hb, ?_, blk_frozen hb _⟩
    rw [blk_cell hb, hc i.toNat _ (List.getElem?_eq_getElem hil)]
    unfold rdOf
    rw [List.getD_eq_getElem?_getD, List.getElem?_eq_getElem hil]; rfl

theorem VItem.same {R : World → Option Addr → List S28 → List Nat → Prop} {w w1 : World} {g : Nat → Option Value} {o : Nat} {x : S28} {f : List Nat} (hR : ∀ A xs fp, R w A xs fp → Same w w1 fp → R w1 A xs fp) (h : VItem R w g o x f) (hs : Same w w1 f) : VItem R w1 g o x f := by
  obtain ⟨A4, c4, A5, c5, f4, f5, rfl, h0, h1, h2, h3, h4, h5, l4, l5, r4, r5⟩ := h
  exact ⟨A4, c4, A5, c5, f4, f5, rfl, h0, h1, h2, h3, h4, h5, l4, l5, hR _ _ _ r4 hs.left, r5.same hs.right⟩
theorem VItem.of {R : World → Option Addr → List S28 → List Nat → Prop} {w : World} {g g' : Nat → Option Value} {o o' : Nat} {x : S28} {f : List Nat} (hg : ∀ j, j < 6 → g' (o' + j) = g (o + j)) (h : VItem R w g o x f) : VItem R w g' o' x f := by
  obtain ⟨A4, c4, A5, c5, f4, f5, rfl, h0, h1, h2, h3, h4, h5, l4, l5, r4, r5⟩ := h
  exact ⟨A4, c4, A5, c5, f4, f5, rfl, (hg 0 (by omega)).trans h0, (hg 1 (by omega)).trans h1, (hg 2 (by omega)).trans h2, (hg 3 (by omega)).trans h3, (hg 4 (by omega)).trans h4, (hg 5 (by omega)).trans h5, l4, l5, r4, r5⟩

theorem VRow.same : ∀ (d : Nat) {w w1 : World} {A : Option Addr} {xs : List S28} {fp : List Nat}, VRow d w A xs fp → Same w w1 fp → VRow d w1 A xs fp
  | 0, _, _, _, _, _, h, _ => h
  | d + 1, w, w1, A, xs, fp, h, hs => by
    rcases h with h | ⟨b, cs, fps, hA, rfl, hb, hl, hf, hi⟩
    · exact .inl h
    · refine .inr ⟨b, cs, fps, hA, rfl, (hs b (by simp)).trans hb, hl, hf, fun i x f hx hff => ?_⟩
      exact VItem.same (fun A xs fp h hs => VRow.same d h hs) (hi i x f hx hff) (fun k hk => hs k (List.mem_cons_of_mem _ (List.mem_flatten.2 ⟨f, List.mem_of_getElem? hff, hk⟩)))
theorem VRow.lt : ∀ (d : Nat) {w : World} {A : Option Addr} {xs : List S28} {fp : List Nat}, VRow d w A xs fp → ∀ b ∈ fp, b < w.heap.size
  | 0, _, _, _, _, h => by rw [h.2]; simp
  | d + 1, w, A, xs, fp, h => by
    rcases h with ⟨_, rfl⟩ | ⟨b, cs, fps, hA, rfl, hb, hl, hf, hi⟩
    · simp
    · intro k hk
      rcases List.mem_cons.1 hk with rfl | hk
      · exact blk_lt hb
      · obtain ⟨f, hm, hk⟩ := List.mem_flatten.1 hk
        obtain ⟨i, hil, hie⟩ := List.getElem_of_mem hm
        have hix : i < xs.length := by omega
        obtain ⟨A4, c4, A5, c5, f4, f5, rfl, _, _, _, _, _, _, _, _, r4, r5⟩ := hi i xs[i] f (List.getElem?_eq_getElem hix) (by rw [List.getElem?_eq_getElem hil, hie])
        rcases List.mem_append.1 hk with hk | hk
        · exact VRow.lt d r4 k hk
        · exact r5.lt k hk

def Long : Nat → List S28 → Prop
  | 0, _ => True
  | d + 1, xs => xs.length ≤ 9223372036854775807 ∧ ∀ x ∈ xs, x.f4.length ≤ 9223372036854775807 ∧ Long d x.f3
theorem Kd.C_nil' {α : Type} (d : Kd α) (w : World) (A : Option Addr) : Kd.C d w A ([] : List α).length [] := ⟨rfl, by simp, fun h => by simp at h⟩
theorem VRow.reads : ∀ (d : Nat) {w : World} {A : Option Addr} {xs : List S28} {fp : List Nat}, VRow d w A xs fp → Long d xs → Kd.C k28 w A xs.length xs
  | 0, w, A, xs, _, h, _ => by rw [h.1]; exact Kd.C_nil' _ _ _
  | d + 1, w, A, xs, fp, h, hn => by
    rcases h with ⟨rfl, _⟩ | ⟨b, cs, fps, hA, rfl, hb, hl, hf, hi⟩
    · exact Kd.C_nil' _ _ _
    · refine ⟨rfl, hn.1, fun hp => ⟨_, hA, fun j x hj => ?_⟩⟩
      have hjl : j < xs.length := (List.getElem?_eq_some_iff.1 hj).1
      obtain ⟨A4, c4, A5, c5, f4, f5, hf, h0, h1, h2, h3, h4, h5, l4, l5, r4, r5⟩ := hi j x (fps[j]'(by omega)) hj (List.getElem?_eq_getElem (by omega))
      have hx := hn.2 x (List.mem_of_getElem? hj)
      refine ⟨_, rfl, k28_mk w x l4 (VRow.reads d r4 hx.2) l5 (r5.reads hx.1), fun i u hu => ?_⟩
      have hsz : k28.sz = 6 := rfl
      rw [hsz]
      have ha : (⟨b, 0, none⟩ : Addr).add (j * 6 + i) = ⟨b, j * 6 + i, none⟩ := add_mid _ _
      rw [ha, blk_cell hb]
      have hi6 : i < 6 := by have := (List.getElem?_eq_some_iff.1 hu).1; simpa using this
      match i, hi6 with
      | 0, _ => rw [← hu]; exact h0
      | 1, _ => rw [← hu]; exact h1
      | 2, _ => rw [← hu]; exact h2
      | 3, _ => rw [← hu]; exact h3
      | 4, _ => rw [← hu]; exact h4
      | 5, _ => rw [← hu]; exact h5

theorem VItems.put {R : World → Option Addr → List S28 → List Nat → Prop} {w w1 : World} {g g' : Nat → Option Value} {xs : List S28} {fps : List (List Nat)} (hR : ∀ A xs fp, R w A xs fp → Same w w1 fp → R w1 A xs fp)
    (h : VItems R w g xs fps) {i : Nat} {x' : S28} {f : List Nat} (hf : fps[i]? = some f) (hg : ∀ j, (j < i * 6 ∨ i * 6 + 6 ≤ j) → g' j = g j) (hx : VItem R w1 g' (i * 6) x' f)
    (hs : ∀ j f', j ≠ i → fps[j]? = some f' → Same w w1 f') : VItems R w1 g' (xs.set i x') fps := by
  refine ⟨by rw [List.length_set]; exact h.1, fun j x f' hj hf' => ?_⟩
  by_cases hji : j = i
  · subst hji
    obtain rfl := Option.some.inj (hf.symm.trans hf')
    have hjl : j < (xs.set j x').length := (List.getElem?_eq_some_iff.1 hj).1
    rw [List.getElem?_set_self (by simpa using hjl)] at hj
    obtain rfl := Option.some.inj hj
    exact hx
  · rw [List.getElem?_set_ne (fun e => hji e.symm)] at hj
    refine VItem.same hR (VItem.of (fun q hq => ?_) (h.2 j x f' hj hf')) (hs j f' hji hf')
    refine hg _ ?_
    rcases Nat.lt_or_gt_of_ne hji with hlt | hgt
    · have := Nat.mul_le_mul_right 6 (Nat.succ_le_of_lt hlt); simp only [Nat.succ_mul] at this; omega
    · have := Nat.mul_le_mul_right 6 (Nat.succ_le_of_lt hgt); simp only [Nat.succ_mul] at this; omega

theorem apart_of_nodup {fps : List (List Nat)} (h : fps.flatten.Nodup) {i j : Nat} {f f' : List Nat} (hij : j ≠ i) (hi : fps[i]? = some f) (hj : fps[j]? = some f') : ∀ b ∈ f', b ∉ f := by
  have hp := (List.pairwise_flatten.1 h).2
  intro b hb hb'
  rcases Nat.lt_or_gt_of_ne hij with hlt | hgt
  · obtain ⟨hil, rfl⟩ := List.getElem?_eq_some_iff.1 hi
    obtain ⟨hjl, rfl⟩ := List.getElem?_eq_some_iff.1 hj
    exact (List.pairwise_iff_getElem.1 hp j i hjl hil hlt) b hb b hb' rfl
  · obtain ⟨hil, rfl⟩ := List.getElem?_eq_some_iff.1 hi
    obtain ⟨hjl, rfl⟩ := List.getElem?_eq_some_iff.1 hj
    exact (List.pairwise_iff_getElem.1 hp i j hil hjl hgt) b hb' b hb rfl
end Go.Proofs.YtebcepbamlokcaaDoor.Q
namespace Go.Proofs.YtebcepbamlokcaaDoor.Q
open Go.RowKit Go.Proofs.YtebcepbamlokcaaDoorW.PrintWords Go.Proofs.YtebcepbamlokcaaDoorW.PrintLast
set_option linter.unusedVariables false
set_option linter.unusedSimpArgs false

def Fit : Nat → List S28 → Prop
  | 0, xs => xs = []
  | d + 1, xs => xs.length ≤ 2097152 ∧ ∀ x ∈ xs, x.f4.length ≤ 2097152 ∧ Fit d x.f3
theorem Fit.long : ∀ (d : Nat) {xs : List S28}, Fit d xs → Long d xs
  | 0, _, _ => trivial
  | d + 1, _, h => ⟨Nat.le_trans h.1 (by decide), fun x hx => ⟨Nat.le_trans (h.2 x hx).1 (by decide), Fit.long d (h.2 x hx).2⟩⟩

theorem NRow.of_R {W : World} {base : Nat} {ok : Nat → Prop} {v : Value} {ns : List ByteArray} (h : Kd.R Kd.string 9 W base ok v ns) :
    ∃ A c fp, v = .slice A ns.length c ∧ ns.length ≤ c ∧ NRow W A ns fp ∧ fp.Nodup ∧ ∀ b ∈ fp, base ≤ b ∧ b < W.heap.size ∧ ok b := by
  obtain ⟨hok, inner, ⟨hl, ho⟩, hr⟩ := h
  rcases ho with ⟨rfl, hn⟩ | ⟨g, cap, cur, rfl, hb, hg, hnc, hm, hs, ht⟩
  · have hns : ns = [] := List.length_eq_zero_iff.1 hn
    subst hns
    exact ⟨none, 0, [], rfl, Nat.le_refl _, .inl ⟨rfl, rfl⟩, List.nodup_nil, by simp⟩
  · refine ⟨_, cap, [g], rfl, hnc, .inr ⟨g, cur, rfl, rfl, hg, ?_, fun i s hi => ?_⟩, by simp, ?_⟩
    · rw [hs]; show ns.length ≤ cap * 1; omega
    · have hil : i < ns.length := (List.getElem?_eq_some_iff.1 hi).1
      have h1 := hr.2 i s hi
      have h2 : ((inner.drop (i * 1)).take 1) = [Value.string s] := h1
      have h3 : inner[i]? = some (.string s) := by
        have := congrArg (fun l => l[0]?) h2
        simpa [List.getElem?_take, List.getElem?_drop] using this
      rw [← ht] at h3
      have hic : i < ns.length * Kd.string.sz := by show i < ns.length * 1; omega
      rw [List.getElem?_take, if_pos hic] at h3
      simpa using h3
    · intro b hb'
      obtain rfl := List.mem_singleton.1 hb'
      exact ⟨hb, blk_lt hg, hok b rfl⟩

theorem VRow.of_own {d : Nat} {W : World} {base : Nat} {v : Value} {xs : List S28} {inner : List Value} {fps : List (List Nat)} (h : W.ownsRow base 28 6 v xs.length inner) (hi : VItems (VRow d) W (fun j => inner[j]?) xs fps)
    (hnd : fps.flatten.Nodup) (hne : ∀ q ∈ fps.flatten, some q ≠ v.ownBlock) (hge : ∀ q ∈ fps.flatten, base ≤ q) :
    ∃ A c fp, v = .slice A xs.length c ∧ xs.length ≤ c ∧ VRow (d + 1) W A xs fp ∧ fp.Nodup ∧ (∀ b ∈ fp, base ≤ b) ∧ (xs = [] → fp = []) := by
  obtain ⟨hl, ho⟩ := h
  by_cases hx : xs = []
  · subst hx
    rcases ho with ⟨rfl, hn⟩ | ⟨g, cap, cur, rfl, hb, hg, hnc, hm, hs, ht⟩
    · exact ⟨none, 0, [], rfl, Nat.le_refl _, .inl ⟨rfl, rfl⟩, List.nodup_nil, by simp, fun _ => rfl⟩
    · exact ⟨_, cap, [], rfl, hnc, .inl ⟨rfl, rfl⟩, List.nodup_nil, by simp, fun _ => rfl⟩
  · have hpos : 0 < xs.length := List.length_pos_iff.2 hx
    rcases ho with ⟨rfl, hn⟩ | ⟨g, cap, cur, rfl, hb, hg, hnc, hm, hs, ht⟩
    · omega
    · refine ⟨_, cap, g :: fps.flatten, rfl, hnc, .inr ⟨g, cur, fps, rfl, rfl, hg, by rw [hs]; omega, hi.1, fun i x f hxi hfi => ?_⟩, List.nodup_cons.2 ⟨fun hm => hne g hm rfl, hnd⟩, ?_, fun h => absurd h hx⟩
      · have hil : i < xs.length := (List.getElem?_eq_some_iff.1 hxi).1
        refine VItem.of (fun j hj => ?_) (hi.2 i x f hxi hfi)
        show cur[i * 6 + j]? = inner[i * 6 + j]?
        rw [← ht, List.getElem?_take, if_pos (by omega)]
        simp
      · intro b hb'
        rcases List.mem_cons.1 hb' with rfl | hb'
        · exact hb
        · exact hge b hb'

theorem six_cells {W : World} {g t : Nat} {c0 c1 c2 c3 c4 c5 : Value} (h : W.heap[g]? = some (.cells #[c0, c1, c2, c3, c4, c5] t (0, 0))) :
    W.cell? ⟨g, 0, none⟩ = some c0 ∧ W.cell? ⟨g, 1, none⟩ = some c1 ∧ W.cell? ⟨g, 2, none⟩ = some c2 ∧ W.cell? ⟨g, 3, none⟩ = some c3 ∧ W.cell? ⟨g, 4, none⟩ = some c4 ∧ W.cell? ⟨g, 5, none⟩ = some c5 ∧
    W.frozen? ⟨g, 0, none⟩ = false ∧ W.frozen? ⟨g, 1, none⟩ = false ∧ W.frozen? ⟨g, 2, none⟩ = false ∧ W.frozen? ⟨g, 3, none⟩ = false ∧ W.frozen? ⟨g, 4, none⟩ = false ∧ W.frozen? ⟨g, 5, none⟩ = false :=
  ⟨blk_cell h 0, blk_cell h 1, blk_cell h 2, blk_cell h 3, blk_cell h 4, blk_cell h 5, blk_frozen h 0, blk_frozen h 1, blk_frozen h 2, blk_frozen h 3, blk_frozen h 4, blk_frozen h 5⟩
theorem six_put {W : World} {g t : Nat} {c0 c1 c2 c3 c4 c5 v0 v1 v2 v3 v4 v5 : Value} (h : W.heap[g]? = some (.cells #[c0, c1, c2, c3, c4, c5] t (0, 0))) :
    ((((((W.setCell ⟨g, 0, none⟩ v0).setCell ⟨g, 1, none⟩ v1).setCell ⟨g, 2, none⟩ v2).setCell ⟨g, 3, none⟩ v3).setCell ⟨g, 4, none⟩ v4).setCell ⟨g, 5, none⟩ v5).heap[g]? = some (.cells #[v0, v1, v2, v3, v4, v5] t (0, 0)) :=
  blk_put (cs' := #[v0, v1, v2, v3, v4, v5]) (blk_put (cs' := #[v0, v1, v2, v3, v4, c5]) (blk_put (cs' := #[v0, v1, v2, v3, c4, c5]) (blk_put (cs' := #[v0, v1, v2, c3, c4, c5]) (blk_put (cs' := #[v0, v1, c2, c3, c4, c5]) (blk_put (cs' := #[v0, c1, c2, c3, c4, c5]) h 0 v0 rfl) 1 v1 rfl) 2 v2 rfl) 3 v3 rfl) 4 v4 rfl) 5 v5 rfl
theorem six_below {B : Nat} {a W : World} {g : Nat} {v0 v1 v2 v3 v4 v5 : Value} (h : Below B a W) (hg : B ≤ g) :
    Below B a ((((((W.setCell ⟨g, 0, none⟩ v0).setCell ⟨g, 1, none⟩ v1).setCell ⟨g, 2, none⟩ v2).setCell ⟨g, 3, none⟩ v3).setCell ⟨g, 4, none⟩ v4).setCell ⟨g, 5, none⟩ v5) :=
  Below.setCell (p := ⟨g, 5, none⟩) (Below.setCell (p := ⟨g, 4, none⟩) (Below.setCell (p := ⟨g, 3, none⟩) (Below.setCell (p := ⟨g, 2, none⟩) (Below.setCell (p := ⟨g, 1, none⟩) (Below.setCell (p := ⟨g, 0, none⟩) h hg v0) hg v1) hg v2) hg v3) hg v4) hg v5
theorem six_other {w : World} {g : Nat} {v0 v1 v2 v3 v4 v5 : Value} (g1 i : Nat) (u : Value) (q : Nat) (h1 : q ≠ g1) (h2 : q ≠ g) :
    (((((((w.setCell ⟨g1, i, none⟩ u).setCell ⟨g, 0, none⟩ v0).setCell ⟨g, 1, none⟩ v1).setCell ⟨g, 2, none⟩ v2).setCell ⟨g, 3, none⟩ v3).setCell ⟨g, 4, none⟩ v4).setCell ⟨g, 5, none⟩ v5).heap[q]? = w.heap[q]? :=
  (Below.heap_setCell _ ⟨g, 5, none⟩ v5 q h2).trans ((Below.heap_setCell _ ⟨g, 4, none⟩ v4 q h2).trans ((Below.heap_setCell _ ⟨g, 3, none⟩ v3 q h2).trans ((Below.heap_setCell _ ⟨g, 2, none⟩ v2 q h2).trans ((Below.heap_setCell _ ⟨g, 1, none⟩ v1 q h2).trans ((Below.heap_setCell _ ⟨g, 0, none⟩ v0 q h2).trans (Below.heap_setCell _ ⟨g1, i, none⟩ u q h1))))))
theorem blk_keep {B : Nat} {W W2 : World} {g : Nat} {o : Obj} (h : W.heap[g]? = some o) (hb : Below B W W2) (hg : g < B) : W2.heap[g]? = some o := (hb.block g hg).trans h
theorem Same.of {B : Nat} {w w1 : World} {fp : List Nat} (hb : Below B w w1) (h : ∀ b ∈ fp, b < B) : Same w w1 fp := fun b hm => hb.block b (h b hm)

theorem clip_calls (A : Option Addr) (n c : Nat) (hn : n ≤ c) (w : World) : Calls Tryd.prog 96 #[.slice A n c] w fun e w' => e = .returned (.slice A n n) ∧ w' = w := by
  have hcap : ((n : Int) ≤ (c : Int)) := by omega
  have hnn : (0 : Int) ≤ (n : Int) := by omega
  have hself : ((n : Int) ≤ (n : Int)) := by omega
  go_enter Tryd.func96, Tryd.ntmps96
  go_wp2
  go_ret
  exact ⟨rfl, rfl⟩
theorem clipV_calls (A : Option Addr) (n c : Nat) (hn : n ≤ c) (w : World) : Calls Tryd.prog 97 #[.slice A n c] w fun e w' => e = .returned (.slice A n n) ∧ w' = w := by
  have hcap : ((n : Int) ≤ (c : Int)) := by omega
  have hnn : (0 : Int) ≤ (n : Int) := by omega
  have hself : ((n : Int) ≤ (n : Int)) := by omega
  go_enter Tryd.func97, Tryd.ntmps97
  go_wp2
  go_ret
  exact ⟨rfl, rfl⟩

theorem w64o {n : Int} (h0 : -9223372036854775808 ≤ n) (h1 : n ≤ 9223372036854775807) : wrap64 n = n := by unfold wrap64; omega
theorem own_round {d : Nat} {W wr wS w7 w24 : World} {i : Nat} {xs : List S28} {x : S28} {inner : List Value} {fps : List (List Nat)} {u3 v24 : Value} {D4 D5 : Option Addr} {e4 e5 : List Nat} (hcx : xs[i]? = some x) (HO : wr.ownsRow W.heap.size 28 6 u3 i inner)
    (HV : VItems (VRow d) wr (fun j => inner[j]?) (xs.take i) fps) (HD : fps.flatten.Nodup) (HG : ∀ q ∈ fps.flatten, W.heap.size ≤ q ∧ q < wr.heap.size ∧ some q ≠ u3.ownBlock) (hWr : W.heap.size ≤ wr.heap.size) (hSr : wr.heap.size ≤ wS.heap.size) (hl7 : wS.heap.size ≤ w7.heap.size) (L07 : Below wr.heap.size wr w7)
    (V4 : VRow d w7 D4 x.f3 e4) (N5 : NRow w7 D5 x.f4 e5) (D45 : (e4 ++ e5).Nodup) (F45 : ∀ q ∈ e4 ++ e5, wS.heap.size ≤ q) (GR : w7.grownBy w24 u3.ownBlock) (AT : v24.ownBlock = u3.ownBlock ∨ ∃ b, v24.ownBlock = some b ∧ w7.heap.size ≤ b) :
    VItems (VRow d) w24 (fun j => (inner ++ [.int .i64 x.f0, .int .i64 x.f1.f0, .int .i64 x.f1.f1, .string x.f2, .slice D4 x.f3.length x.f3.length, .slice D5 x.f4.length x.f4.length])[j]?) (xs.take (i + 1)) (fps ++ [e4 ++ e5]) ∧ (fps ++ [e4 ++ e5]).flatten.Nodup ∧
      ∀ q ∈ (fps ++ [e4 ++ e5]).flatten, W.heap.size ≤ q ∧ q < w24.heap.size ∧ some q ≠ v24.ownBlock := by
  have hi : i < xs.length := (List.getElem?_eq_some_iff.1 hcx).1
  have hin : inner.length = i * 6 := HO.1
  have hl24 : w7.heap.size ≤ w24.heap.size := GR.size
  have hub : ∀ k, u3.ownBlock = some k → k < wr.heap.size := fun k hk => own_lt HO k hk
  have hold : ∀ f ∈ fps, Same wr w24 f := fun f hf q hq => by
    have hg := HG q (List.mem_flatten.2 ⟨f, hf, hq⟩)
    exact (GR.block q (by omega) hg.2.2).trans (L07.block q hg.2.1)
  have hlt4 := VRow.lt d V4
  have hlt5 := N5.lt
  have hnewlt : ∀ q ∈ e4 ++ e5, q < w7.heap.size := fun q hq => (List.mem_append.1 hq).elim (hlt4 q) (hlt5 q)
  have hnew : Same w7 w24 (e4 ++ e5) := fun q hq => GR.block q (hnewlt q hq) (fun h => by have := hub q h.symm; have := F45 q hq; omega)
  refine ⟨⟨?_, fun j y f hy hf => ?_⟩, ?_, fun q hq => ?_⟩
  · rw [List.length_append, HV.1, List.length_take, List.length_take, List.length_singleton]; omega
  · have hfl : fps.length = i := by rw [HV.1, List.length_take]; omega
    rw [List.take_add_one, hcx] at hy
    have htl : (xs.take i).length = i := by rw [List.length_take]; omega
    rcases Nat.lt_or_ge j i with hj | hj
    · rw [List.getElem?_append_left (by omega)] at hy hf
      refine VItem.of (g := fun j => inner[j]?) (fun q hq => List.getElem?_append_left (by omega)) ?_
      exact VItem.same (fun A xs fp => VRow.same d) (HV.2 j y f hy hf) (hold f (List.mem_of_getElem? hf))
    · have hji : j = i := by
        have := (List.getElem?_eq_some_iff.1 hf).1
        rw [List.length_append, List.length_singleton] at this
        omega
      subst hji
      rw [List.getElem?_append_right (by omega), hfl, Nat.sub_self] at hf
      rw [List.getElem?_append_right (by omega), htl, Nat.sub_self] at hy
      obtain rfl : e4 ++ e5 = f := by simpa using hf
      obtain rfl : x = y := by simpa using hy
      refine ⟨D4, x.f3.length, D5, x.f4.length, e4, e5, rfl, ?_, ?_, ?_, ?_, ?_, ?_, Nat.le_refl _, Nat.le_refl _, VRow.same d V4 hnew.left, N5.same hnew.right⟩
      all_goals
        show (inner ++ _)[_]? = _
        rw [List.getElem?_append_right (by omega), hin]
        first | rw [Nat.sub_self]; rfl | rw [Nat.add_sub_cancel_left]; rfl
  · rw [List.flatten_append]
    refine List.nodup_append.2 ⟨HD, by simpa using D45, fun a ha b hb => ?_⟩
    have h1 := (HG a ha).2.1
    have h2 := F45 b (by simpa using hb)
    omega
  · rw [List.flatten_append] at hq
    rcases List.mem_append.1 hq with hq | hq
    · obtain ⟨h1, h2, h3⟩ := HG q hq
      refine ⟨h1, by omega, fun h => ?_⟩
      rcases AT with ha | ⟨b, hb, hb2⟩
      · exact h3 (h.trans ha)
      · rw [hb] at h; injection h with h; omega
    · have hq' : q ∈ e4 ++ e5 := by simpa using hq
      have h1 := F45 q hq'
      have h2 := hnewlt q hq'
      refine ⟨by omega, by omega, fun h => ?_⟩
      rcases AT with ha | ⟨b, hb, hb2⟩
      · have := hub q (h.trans ha).symm; omega
      · rw [hb] at h; injection h with h; omega

abbrev OwnC (d : Nat) : Prop := ∀ (w : World) (n m e : Int) (s : ByteArray) (A4 : Option Addr) (c4 : Nat) (xs : List S28) (A5 : Option Addr) (c5 : Nat) (ns : List ByteArray), Kd.C k28 w A4 xs.length xs → xs.length ≤ c4 → Kd.C Kd.string w A5 ns.length ns → ns.length ≤ c5 → Fit d xs → ns.length ≤ 2097152 →
    Calls Tryd.prog 45 #[.agg #[.int .i64 n, .int .i64 m, .int .i64 e, .string s, .slice A4 xs.length c4, .slice A5 ns.length c5]] w fun e' w' => ∃ B4 B5 f4 f5,
      e' = .returned (.agg #[.int .i64 n, .int .i64 m, .int .i64 e, .string s, .slice B4 xs.length xs.length, .slice B5 ns.length ns.length]) ∧ VRow d w' B4 xs f4 ∧ NRow w' B5 ns f5 ∧ (f4 ++ f5).Nodup ∧ (∀ q ∈ f4 ++ f5, w.heap.size ≤ q) ∧ (xs = [] → f4 = []) ∧ Below w.heap.size w w'

set_option maxHeartbeats 2000000 in
set_option maxRecDepth 100000 in
theorem own_succ (d : Nat) (w : World) (n m e : Int) (s : ByteArray) (A4 : Option Addr) (c4 : Nat) (xs : List S28) (A5 : Option Addr) (c5 : Nat) (ns : List ByteArray) (ih : 0 < xs.length → OwnC d) (h4 : Kd.C k28 w A4 xs.length xs) (l4 : xs.length ≤ c4) (h5 : Kd.C Kd.string w A5 ns.length ns) (l5 : ns.length ≤ c5)
    (hf : Fit (d + 1) xs) (hn : ns.length ≤ 2097152) :
    Calls Tryd.prog 45 #[.agg #[.int .i64 n, .int .i64 m, .int .i64 e, .string s, .slice A4 xs.length c4, .slice A5 ns.length c5]] w fun e' w' => ∃ B4 B5 f4 f5,
      e' = .returned (.agg #[.int .i64 n, .int .i64 m, .int .i64 e, .string s, .slice B4 xs.length xs.length, .slice B5 ns.length ns.length]) ∧ VRow (d + 1) w' B4 xs f4 ∧ NRow w' B5 ns f5 ∧ (f4 ++ f5).Nodup ∧ (∀ q ∈ f4 ++ f5, w.heap.size ≤ q) ∧ (xs = [] → f4 = []) ∧ Below w.heap.size w w' := by
  have H4 := Aside0.mk h4
  have H5 := Aside0.mk h5
  have HF := Aside0.mk hf
  have HN := Aside0.mk hn
  clear h4 h5 hf hn
  go_enter Tryd.func45, Tryd.ntmps45
  go_wp2_with (first
    | ((with_reducible refine gate_dst (N := 1) rfl ?_); refine box_event ?hg (N := 1) ?hd (cs := #[.int .i64 n, .int .i64 m, .int .i64 e, .string s, .slice A4 xs.length c4, .slice A5 ns.length c5]) (t := 28) ?hr ?_; (case hd => rfl); (case hg => rfl); (case hr => first | (go_simp; done) | (go_simp; rfl))
       intro g1 hg1 w1 hbox1 hb1; have G1 := Aside0.mk hg1; have B1 := Aside0.mk hbox1; have L1 := Aside0.mk hb1; clear hg1 hbox1 hb1)
    | ((with_reducible refine gate_dst (N := 2) rfl ?_); refine box_event ?hg (N := 2) ?hd (cs := #[.int .i64 0, .int .i64 0, .int .i64 0, .string (⟨#[]⟩ : ByteArray), .slice none 0 0, .slice none 0 0]) (t := 28) ?hr ?_; (case hd => rfl); (case hg => rfl); (case hr => first | (go_simp; done) | (go_simp; rfl))
       intro g2 hg2 w2 hbox2 hb2; have G2 := Aside0.mk hg2; have B2 := Aside0.mk hbox2; have L2 := Aside0.mk hb2; clear hg2 hbox2 hb2)
    | ((with_reducible refine gate_dst (N := 6) rfl ?_); refine Kd.R_lit Kd.string _ 9 ?hg (N := 6) ?hd (xs := ([] : List ByteArray)) (inner := []) (ok := fun _ => True) (okp := fun _ => True) ?hr ?hp (fun _ hk => hk) trivial (Below.refl _ _) (Nat.le_refl _) (by simp) ?_; (case hd => rfl); (case hg => rfl); (case hr => first | (go_simp; done) | (go_simp; rfl)); (case hp => exact (Reps.none _ _))
       intro v6 w6 ho6 hb6 _ _; have O6 := Aside0.mk ho6; have L6 := Aside0.mk hb6; clear ho6 hb6
       have B2' := blk_keep B2.out L6.out (blk_lt B2.out)
       have B1' := blk_keep (blk_keep B1.out L2.out (blk_lt B1.out)) L6.out (blk_lt (blk_keep B1.out L2.out (blk_lt B1.out)))
       have k1 : w6.cell? ⟨g1, 5, none⟩ = some (.slice A5 ns.length c5) := blk_cell B1' 5)
    | (at_builtin
       refine Kd.R_append_rows Kd.string (w0 := w2) w2.heap.size rfl (.tmp 6) (.tmp 8) 26 9 (.string ⟨#[]⟩) 16 rfl Tryd.underlying26 info9 rfl (by decide) (by omega) v6 [] ns A5 ns.length c5 (fun _ => True) (fun _ => False) rfl rfl O6.out ?aR (fun _ _ h => h) (fun _ h => h.elim) (fun _ _ => trivial) L6.out L6.out.size ?aL ?_
       (case aR => exact Kd.C_below H5.out (below_step (below_step L1.out L2.out) L6.out))
       (case aL => have := HN.out; simp only [List.length_nil]; omega)
       intro v9 w9 ho9 hb9 _ _
       obtain ⟨B5, cc, f5, rfl, hle5, N5, D5, F5⟩ := NRow.of_R ho9
       have L9 := Aside0.mk hb9
       have B2'' := blk_keep B2.out hb9 (blk_lt B2.out)
       have B1'' := blk_keep (blk_keep B1.out L2.out (blk_lt B1.out)) hb9 (blk_lt (blk_keep B1.out L2.out (blk_lt B1.out)))
       clear k1 B1' B2' ho9 hb9
       simp only [List.nil_append] at hle5 N5 F5 ⊢)
    | (go_at_call 96
       refine (clip_calls _ _ _ hle5 _).mono ?_
       rintro e' w10 ⟨rfl, rfl⟩
       have k2 : w10.cell? ⟨g1, 5, none⟩ = some (.slice A5 ns.length c5) := blk_cell B1'' 5
       have k3 := blk_frozen B1'' 5)
    | ((with_reducible refine gate_dst (N := 12) rfl ?_)
       have BW1 := Aside0.mk (blk_put (cs' := #[.int .i64 n, .int .i64 m, .int .i64 e, .string s, .slice A4 xs.length c4, .slice B5 ns.length ns.length]) B1'' 5 (.slice B5 ns.length ns.length) rfl)
       have g12 : g1 < g2 := by rw [G2.out]; exact blk_lt B1.out
       have BW2 := Aside0.mk (blk_far B2'' (p := ⟨g1, 5, none⟩) (Nat.ne_of_gt g12) (.slice B5 ns.length ns.length))
       have NW := Aside0.mk (NRow.same (w1 := w10.setCell ⟨g1, 5, none⟩ (.slice B5 ns.length ns.length)) N5 (fun q hq => Below.heap_setCell w10 _ _ q (by have := (F5 q hq).1; have := blk_lt B2.out; show q ≠ g1; omega)))
       have LW := Aside0.mk (Below.setCell (p := ⟨g1, 5, none⟩) (below_step (below_step L1.out L2.out) L9.out) (by show w.heap.size ≤ g1; rw [G1.out]; exact Nat.le_refl _) (.slice B5 ns.length ns.length))
       have SW : (w10.setCell ⟨g1, 5, none⟩ (.slice B5 ns.length ns.length)).heap.size = w10.heap.size := by simp only [World.setCell, Array.size_modify]
       clear B1'' B2'' k2 k3
       generalize w10.setCell ⟨g1, 5, none⟩ (.slice B5 ns.length ns.length) = W at *
       refine Kd.R_lit k28 _ 28 ?hg (N := 12) ?hd (xs := ([] : List S28)) (inner := []) (ok := fun _ => True) (okp := fun _ => True) ?hr ?hp (fun _ hk => hk) trivial (Below.refl _ _) (Nat.le_refl _) (by simp) ?_; (case hd => rfl); (case hg => rfl); (case hr => first | (go_simp; done) | (go_simp; rfl)); (case hp => exact (Reps.none _ _))
       intro v12 w12 ho12 hb12 _ _
       obtain ⟨inner0, O12⟩ := Kd.R_own ho12
       have hi0 : inner0 = [] := List.length_eq_zero_iff.1 (by rw [O12.1]; simp)
       subst hi0
       have L12 := Aside0.mk hb12
       have k4 : w12.cell? ⟨g1, 4, none⟩ = some (.slice A4 xs.length c4) := blk_cell (blk_keep BW1.out hb12 (blk_lt BW1.out)) 4
       clear ho12 hb12))
  have hcy : ∀ q ∈ f5, q < W.heap.size ∧ q ≠ g1 ∧ q ≠ g2 := fun q hq => ⟨by rw [SW]; exact (F5 q hq).2.1, by have := (F5 q hq).1; have := blk_lt B2.out; omega, by have := (F5 q hq).1; have := blk_lt B2.out; omega⟩
  have O12s := Aside0.mk O12
  have F5s : ∀ q ∈ f5, w.heap.size ≤ q := fun q hq => Nat.le_trans (Nat.le_trans L1.out.size L2.out.size) (F5 q hq).1
  clear O12 N5 F5
  go_loopg [3, 16] xs.length (fun kq v3 v16 w' => ∃ (i : Nat) (inner : List Value) (fps : List (List Nat)), v16 = .int .i64 (i : Int) ∧ Aside0 (i + kq = xs.length) ∧ Aside0 (w'.ownsRow W.heap.size 28 6 v3 i inner) ∧ Aside0 (VItems (VRow d) w' (fun j => inner[j]?) (xs.take i) fps) ∧
    Aside0 fps.flatten.Nodup ∧ Aside0 (∀ q ∈ fps.flatten, W.heap.size ≤ q ∧ q < w'.heap.size ∧ some q ≠ v3.ownBlock) ∧ Aside0 (Below W.heap.size W w'))
  case atStart => exact ⟨0, [], [], rfl, ⟨by omega⟩, ⟨O12s.out⟩, ⟨rfl, fun i x f h => by simp at h⟩, ⟨List.nodup_nil⟩, ⟨by simp⟩, ⟨L12.out⟩⟩
  case round =>
    obtain ⟨i, inner, fps, rfl, HI, HO, HV, HD, HG, HL⟩ := hrel
    cases gk with
    | zero =>
      have hd : decide ((i : Int) < (xs.length : Int)) = false := decide_eq_false (by have := HI.out; omega)
      obtain ⟨A, c, fp, rfl, hle4, V4, D4, F4, E4⟩ := VRow.of_own (d := d) (xs := xs) (fps := fps) (inner := inner) (by have := HI.out; rw [show xs.length = i by omega]; exact HO.out) (by have h := HV.out; rw [List.take_of_length_le (by have := HI.out; omega)] at h; exact h) HD.out (fun q hq => (HG.out q hq).2.2) (fun q hq => (HG.out q hq).1)
      obtain rfl : xs.length = i := by have := HI.out; omega
      have C1 := blk_keep BW1.out HL.out (blk_lt BW1.out)
      have C2 := blk_keep BW2.out HL.out (blk_lt BW2.out)
      obtain ⟨p0, p1, p2, p3, p4, p5, z0, z1, z2, z3, z4, z5⟩ := six_cells C1
      obtain ⟨q0, q1, q2, q3, q4, q5, y0, y1, y2, y3, y4, y5⟩ := six_cells C2
      have hne : g1 ≠ g2 := Nat.ne_of_lt g12
      have hne' : g2 ≠ g1 := Nat.ne_of_gt g12
      go_wp2_with (first
        | (go_at_call 97
           refine (clipV_calls _ _ _ hle4 _).mono ?_
           rintro e' w11 ⟨rfl, hw11⟩
           subst hw11))
      have hP := six_put (v0 := .int .i64 n) (v1 := .int .i64 m) (v2 := .int .i64 e) (v3 := .string s) (v4 := .slice A xs.length xs.length) (v5 := .slice B5 ns.length ns.length) (blk_far (by first | exact C2 | assumption) (p := ⟨g1, 4, none⟩) hne' (.slice A xs.length xs.length))
      refine bodyPost_ret (results_cell_row rfl _ _ g2 28 #[.int .i64 n, .int .i64 m, .int .i64 e, .string s, .slice A xs.length xs.length, .slice B5 ns.length ns.length] (0, 0) _ rfl hP Tryd.underlying28 rfl (by kernel_rfl)) rfl ?_
      have hg1W : g1 < W.heap.size := blk_lt BW1.out
      have hg2W : g2 < W.heap.size := blk_lt BW2.out
      have hS := six_other (v0 := .int .i64 n) (v1 := .int .i64 m) (v2 := .int .i64 e) (v3 := .string s) (v4 := .slice A xs.length xs.length) (v5 := .slice B5 ns.length ns.length) (w := w11) (g := g2) g1 4 (.slice A xs.length xs.length)
      have LB := below_step LW.out HL.out
      have g1w : w.heap.size ≤ g1 := Nat.le_of_eq G1.out.symm
      refine ⟨A, B5, fp, f5, rfl, VRow.same (d + 1) V4 (fun q hq => hS q (Nat.ne_of_gt (Nat.lt_of_lt_of_le hg1W (F4 q hq))) (Nat.ne_of_gt (Nat.lt_of_lt_of_le hg2W (F4 q hq)))), NRow.same (NRow.same NW.out (Same.of HL.out (fun q hq => (hcy q hq).1))) (fun q hq => hS q (hcy q hq).2.1 (hcy q hq).2.2),
        List.nodup_append.2 ⟨D4, D5, fun a ha b hb h => Nat.lt_irrefl _ (Nat.lt_of_lt_of_le (hcy b hb).1 (by rw [← h]; exact F4 a ha))⟩, fun q hq => ?_, E4, six_below (Below.setCell (p := ⟨g1, 4, none⟩) LB g1w _) (Nat.le_trans g1w (Nat.le_of_lt g12))⟩
      rcases List.mem_append.1 hq with hq | hq
      · exact Nat.le_trans LW.out.size (F4 q hq)
      · exact F5s q hq
    | succ k1 =>
      have hd : decide ((i : Int) < (xs.length : Int)) = true := decide_eq_true (by have := HI.out; omega)
      have hp : (0 ≤ (i : Int)) = True := eq_true (by omega)
      have hq : ((i : Int) < (xs.length : Int)) = True := eq_true (by have := HI.out; omega)
      have hi : i < xs.length := by have := HI.out; omega
      have HIk : Aside0 (i + 1 + k1 = xs.length) := ⟨by have := HI.out; omega⟩
      have E6 : Aside0 (wrap64 ((i : Int) + 1) = ((i + 1 : Nat) : Int)) := ⟨by have := HF.out.1; rw [w64o (by omega) (by omega)]; omega⟩
      obtain ⟨ad, A4', c4', A5', c5', rfl, x0, x1, x2, x3, x4, x5, l4', r4, l5', r5⟩ := at_T28 H4.out (i : Int) (by omega) (by omega)
      have hxe : rd_T28 xs (i : Int) = xs[i] := by unfold rd_T28; rw [Int.toNat_natCast, List.getD_eq_getElem?_getD, List.getElem?_eq_getElem hi]; rfl
      have hcx := List.getElem?_eq_getElem hi
      rw [hxe] at x0 x1 x2 x3 x4 x5 l4' r4 l5' r5
      simp only [Int.toNat_natCast] at x0 x1 x2 x3 x4 x5
      generalize xs[i] = x at hcx x0 x1 x2 x3 x4 x5 l4' r4 l5' r5
      have LB := below_step LW.out HL.out
      replace x0 := (LB.cell (World.block_lt_of_cell? w _ x0)).trans x0
      replace x1 := (LB.cell (World.block_lt_of_cell? w _ x1)).trans x1
      replace x2 := (LB.cell (World.block_lt_of_cell? w _ x2)).trans x2
      replace x3 := (LB.cell (World.block_lt_of_cell? w _ x3)).trans x3
      replace x4 := (LB.cell (World.block_lt_of_cell? w _ x4)).trans x4
      replace x5 := (LB.cell (World.block_lt_of_cell? w _ x5)).trans x5
      have hlW : W.heap.size ≤ wr.heap.size := HL.out.size
      go_wp2_with (first
        | ((with_reducible refine gate_dst (N := 5) rfl ?_); refine box_event ?hg (N := 5) ?hd (cs := #[.int .i64 0, .int .i64 0, .int .i64 0, .string (⟨#[]⟩ : ByteArray), .slice none 0 0, .slice none 0 0]) (t := 28) ?hr ?_; (case hd => rfl); (case hg => rfl); (case hr => first | (go_simp; done) | (go_simp; rfl))
           intro g3 hg3 w5 hbox5 hb5; have G3 := Aside0.mk hg3; have B3 := Aside0.mk hbox5; have L5 := Aside0.mk hb5; clear hg3 hbox5 hb5
           obtain ⟨p0, p1, p2, p3, p4, p5, z0, z1, z2, z3, z4, z5⟩ := six_cells B3.out
           clear x0 x1 x2 x3 x4 x5)
        | (go_at_call 45
           have BS := six_below (v0 := .int .i64 x.f0) (v1 := .int .i64 x.f1.f0) (v2 := .int .i64 x.f1.f1) (v3 := .string x.f2) (v4 := .slice A4' x.f3.length c4') (v5 := .slice A5' x.f4.length c5') L5.out (Nat.le_of_eq G3.out.symm)
           generalize (((((w5.setCell ⟨g3, 0, none⟩ (.int .i64 x.f0)).setCell ⟨g3, 1, none⟩ (.int .i64 x.f1.f0)).setCell ⟨g3, 2, none⟩ (.int .i64 x.f1.f1)).setCell ⟨g3, 3, none⟩ (.string x.f2)).setCell ⟨g3, 4, none⟩ (.slice A4' x.f3.length c4')).setCell ⟨g3, 5, none⟩ (.slice A5' x.f4.length c5') = wS at *
           have hxm := HF.out.2 x (List.mem_of_getElem? hcx)
           refine (ih (by omega) wS x.f0 x.f1.f0 x.f1.f1 x.f2 A4' c4' x.f3 A5' c5' x.f4 (Kd.C_below r4 (below_step LB BS)) l4' (Kd.C_below r5 (below_step LB BS)) l5' hxm.2 hxm.1).mono ?_
           rintro e' w7 ⟨D4, D5, e4, e5, rfl, V4, N5, D45, F45, _, L7⟩
           have L07 := Aside0.mk (below_step BS L7)
           clear p0 p1 p2 p3 p4 p5 z0 z1 z2 z3 z4 z5)
        | (at_builtin
           refine print_append_cells (w0 := W) W.heap.size rfl (.tmp 20) (.tmp 23) 25 28 (.agg #[(.int .i64 0), (.int .i64 0), (.int .i64 0), (.string ⟨#[]⟩), (.slice none 0 0), (.slice none 0 0)]) 6 88 rfl Tryd.underlying25 info28 rfl (by decide) (by omega) u3 i inner [.int .i64 x.f0, .int .i64 x.f1.f0, .int .i64 x.f1.f1, .string x.f2, .slice D4 x.f3.length x.f3.length, .slice D5 x.f4.length x.f4.length] rfl rfl rfl ?h1 (pw_own_below HO.out L07.out) (HL.out.trans (Below.mono L07.out hlW)) (Nat.le_trans hlW L07.out.size) ?hl ?_
           (case h1 => intro u hu; simp only [List.mem_cons, List.not_mem_nil, or_false] at hu; rcases hu with rfl | rfl | rfl | rfl | rfl | rfl <;> rfl)
           (case hl => have := HF.out.1; omega)
           intro v24 w24 hown hbel hgr hat
           have Q24 := Aside0.mk hown
           have L24 := Aside0.mk hbel
           have GR := Aside0.mk hgr
           have AT := Aside0.mk hat
           clear hown hbel hgr hat))
      go_roundg k1
      case measure => exact Nat.lt_succ_self k1
      case rel =>
        obtain ⟨r1, r2, r3⟩ := own_round hcx HO.out HV.out HD.out HG.out hlW BS.size L7.size L07.out V4 N5 D45 F45 GR.out AT.out
        exact ⟨i + 1, _, fps ++ [e4 ++ e5], by rw [E6.out], HIk, ⟨Q24.out⟩, ⟨r1⟩, ⟨r2⟩, ⟨r3⟩, ⟨L24.out⟩⟩
theorem own_calls : ∀ d, OwnC d
  | d + 1 => fun w n m e s A4 c4 xs A5 c5 ns h4 l4 h5 l5 hf hn => by
    refine (own_succ d w n m e s A4 c4 xs A5 c5 ns (fun _ => own_calls d) h4 l4 h5 l5 hf hn).mono ?_
    rintro e' w' ⟨B4, B5, f4, f5, h⟩
    exact ⟨B4, B5, f4, f5, h⟩
  | 0 => fun w n m e s A4 c4 xs A5 c5 ns h4 l4 h5 l5 hf hn => by
    have hx : xs = [] := hf
    refine (own_succ 0 w n m e s A4 c4 xs A5 c5 ns (fun h => by rw [hx] at h; simp at h) h4 l4 h5 l5 ⟨by rw [hx]; simp, by rw [hx]; simp⟩ hn).mono ?_
    rintro e' w' ⟨B4, B5, f4, f5, h1, h2, h3, h4, h5, h6, h7⟩
    exact ⟨B4, B5, f4, f5, h1, ⟨hx, h6 hx⟩, h3, h4, h5, h6, h7⟩
end Go.Proofs.YtebcepbamlokcaaDoor.Q
namespace Go.Proofs.YtebcepbamlokcaaDoor.Q
open Go.RowKit Go.Proofs.YtebcepbamlokcaaDoorW.PrintWords Go.Proofs.YtebcepbamlokcaaDoorW.PrintLast

set_option linter.unusedVariables false
set_option linter.unusedSimpArgs false
def bs (l : List UInt8) : ByteArray := ⟨l.toArray⟩
theorem bs_app (a b : List UInt8) : bs a ++ bs b = bs (a ++ b) := by
 apply ByteArray.ext
 rw [ByteArray.data_append]
 simp [bs]
theorem bs_size (a : List UInt8) : (bs a).size = a.length := by simp [bs, ByteArray.size]
theorem bs_data (a : List UInt8) : (bs a).data.toList = a := by simp [bs]
theorem bs_toList (a : List UInt8) : (bs a).toList = a := by rw [Lib.toList_data, bs_data]
def Dig (l : List UInt8) : Prop := ∀ c ∈ l, 48 ≤ c.toNat ∧ c.toNat ≤ 57
def valF (acc : Nat) (l : List UInt8) : Nat := l.foldl (fun a c => a * 10 + (c.toNat - 48)) acc
theorem valF_nil (acc : Nat) : valF acc [] = acc := List.foldl_nil
theorem valF_cons (acc : Nat) (c : UInt8) (r : List UInt8) : valF acc (c :: r) = valF (acc * 10 + (c.toNat - 48)) r := List.foldl_cons ..
theorem valF_app (acc : Nat) (a b : List UInt8) : valF acc (a ++ b) = valF (valF acc a) b := by
 induction a generalizing acc with
 | nil => rw [List.nil_append, valF_nil]
 | cons c r ih => rw [List.cons_append, valF_cons, valF_cons, ih]
theorem valF_ge (acc : Nat) (a : List UInt8) : acc ≤ valF acc a := by
 induction a generalizing acc with
 | nil => rw [valF_nil]; exact Nat.le_refl _
 | cons c r ih => rw [valF_cons]; exact Nat.le_trans (by omega) (ih _)
theorem Dig.app {a b : List UInt8} (ha : Dig a) (hb : Dig b) : Dig (a ++ b) := by
 intro c hc
 rcases List.mem_append.1 hc with h | h
 ·exact ha c h
 ·exact hb c h
theorem Dig.of_app_left {a b : List UInt8} (h : Dig (a ++ b)) : Dig a := fun c hc => h c (List.mem_append_left _ hc)
theorem Dig.take {a : List UInt8} (h : Dig a) (n : Nat) : Dig (a.take n) := fun c hc => h c (List.mem_of_mem_take hc)
theorem Dig.drop {a : List UInt8} (h : Dig a) (n : Nat) : Dig (a.drop n) := fun c hc => h c (List.mem_of_mem_drop hc)

theorem nat8 (n : Nat) (h : n < 256) : (UInt8.ofNat n).toNat = n := by
 rw [UInt8.toNat_ofNat']; exact Nat.mod_eq_of_lt h
theorem decDigits_all (u : Nat) : Dig (Lib.decDigits u) ∧ valF 0 (Lib.decDigits u) = u ∧ Lib.decDigits u ≠ [] ∧ ((Lib.decDigits u).head? = some 48 → u = 0) := by
 induction u using Nat.strongRecOn with
 | _ u ih =>
  by_cases h : u < 10
  ·rw [Lib.decDigits, dif_pos h]
   have e : (UInt8.ofNat (48 + u)).toNat = 48 + u := nat8 _ (by omega)
   refine ⟨fun c hc => ?_, ?_, (by simp), fun hh => ?_⟩
   ·rw [List.mem_singleton.1 hc, e]; omega
   ·rw [valF_cons, valF_nil, e]; omega
   ·simp only [List.head?_cons, Option.some.injEq] at hh
    have := congrArg UInt8.toNat hh
    rw [e] at this
    have h48 : (48 : UInt8).toNat = 48 := rfl
    omega
  ·obtain ⟨h1, h2, h3, h4⟩ := ih (u / 10) (by omega)
   rw [Lib.decDigits, dif_neg h]
   have e : (UInt8.ofNat (48 + u % 10)).toNat = 48 + u % 10 := nat8 _ (by omega)
   refine ⟨h1.app fun c hc => ?_, ?_, (by simp), fun hh => ?_⟩
   ·rw [List.mem_singleton.1 hc, e]; omega
   ·rw [valF_app, h2]; rw [valF_cons, valF_nil, e]; omega
   ·rw [List.head?_append, Option.or_eq_some_iff] at hh
    rcases hh with hh | ⟨hh, _⟩
    case inr => exact absurd (List.head?_eq_none_iff.1 hh) h3
    have := h4 hh
    omega

theorem parseUint10_dig (l : List UInt8) : ∀ acc, Dig l → valF acc l < 9223372036854775808 → Lib.parseUint10 acc l = .ok (valF acc l) := by
 induction l with
 | nil => intro acc _ _; rw [valF_nil]; rfl
 | cons c r ih =>
  intro acc hd hv
  have hc := hd c List.mem_cons_self
  rw [valF_cons] at hv
  have hge := valF_ge (acc * 10 + (c.toNat - 48)) r
  simp only [Lib.parseUint10]
  rw [valF_cons]
  rw [if_pos hc, if_neg (by omega), if_neg (by omega)]
  exact ih _ (fun x hx => hd x (List.mem_cons_of_mem _ hx)) hv
theorem atoiAll_dig (l : List UInt8) (hd : Dig l) (hn : l ≠ []) (hv : valF 0 l < 9223372036854775808) : Lib.atoiAll l = .ok (valF 0 l : Int) := by
 cases l with
 | nil => exact absurd rfl hn
 | cons c r =>
  have hc := hd c List.mem_cons_self
  unfold Lib.atoiAll Lib.parseMag
  simp only
  rw [if_neg (show ¬ (c.toNat = 43 ∨ c.toNat = 45) by omega), if_neg (by simp), parseUint10_dig _ _ hd hv]
  simp only
  have hne : ¬ c.toNat = 45 := by omega
  simp only [hne, not_false_eq_true, true_and, false_and, if_false]
  rw [if_neg (by omega)]

def Ok (m e : Int) : Prop := (m = 0 ∧ e = 0) ∨ (m ≠ 0 ∧ -99999999 ≤ m ∧ m ≤ 99999999 ∧ -8 ≤ e ∧ e ≤ 8 ∧ Int.tmod m 10 ≠ 0)
instance (m e : Int) : Decidable (Ok m e) := by unfold Ok; infer_instance
theorem Ok.iff {m e t : Int} (h : Int.tmod m 10 = t) : Ok m e ↔ (m = 0 ∧ e = 0) ∨ (m ≠ 0 ∧ -99999999 ≤ m ∧ m ≤ 99999999 ∧ -8 ≤ e ∧ e ≤ 8 ∧ t ≠ 0) := by rw [← h]; exact Iff.rfl
theorem impl_ok {m e : Int} : impl_DecOk.f m e = some (decide (Ok m e)) := by
 have hz : m = 0 → Int.tmod m 10 = 0 := by rintro rfl; rfl
 obtain ⟨t, ht⟩ : ∃ t, Int.tmod m 10 = t := ⟨_, rfl⟩
 have hok := Ok.iff (e := e) ht
 unfold impl_DecOk.f
 rw [ht] at hz ⊢
 by_cases h1 : -99999999 ≤ m
 ·rw [if_pos h1]
  by_cases h2 : m ≤ 99999999
  ·rw [if_pos h2]
   by_cases h3 : -8 ≤ e
   ·rw [if_pos h3]
    by_cases h4 : e ≤ 8
    ·rw [if_pos h4]
     by_cases h5 : t = 0
     ·rw [if_pos h5]
      by_cases h6 : m = 0
      ·by_cases h7 : e = 0
       ·rw [decide_eq_true (hok.2 (by omega))]; simp [h6, h7]
       ·rw [decide_eq_false (fun h => absurd (hok.1 h) (by omega))]; simp [h7]
      ·rw [decide_eq_false (fun h => absurd (hok.1 h) (by omega))]; simp [h6]
     ·rw [if_neg h5, decide_eq_true (hok.2 (by omega))]
    ·rw [if_neg h4, decide_eq_false (fun h => absurd (hok.1 h) (by omega))]
   ·rw [if_neg h3, decide_eq_false (fun h => absurd (hok.1 h) (by omega))]
  ·rw [if_neg h2, decide_eq_false (fun h => absurd (hok.1 h) (by omega))]
 ·rw [if_neg h1, decide_eq_false (fun h => absurd (hok.1 h) (by omega))]
theorem spec_ok {m e : Int} : spec_DecOk.f m e = some (decide (Ok m e)) := by
 obtain ⟨t, ht⟩ : ∃ t, Int.tmod m 10 = t := ⟨_, rfl⟩
 have hok := Ok.iff (e := e) ht
 unfold spec_DecOk.f spec_l1In.f
 by_cases h0 : m = 0
 ·rw [if_pos h0]
  by_cases h1 : e = 0
  ·rw [decide_eq_true (hok.2 (by omega))]; simp [h1]
  ·rw [decide_eq_false (fun h => absurd (hok.1 h) (by omega))]; simp [h1]
 ·rw [if_neg h0]
  rw [ht]
  by_cases h1 : m ≥ -99999999
  ·rw [if_pos h1]
   by_cases h2 : m ≤ 99999999
   ·rw [decide_eq_true h2]
    rw [Option.bind_some, if_pos rfl]
    by_cases h3 : e ≥ -8
    ·rw [if_pos h3]
     by_cases h4 : e ≤ 8
     ·rw [decide_eq_true h4]
      rw [Option.bind_some, if_pos rfl]
      by_cases h5 : t = 0
      ·rw [decide_eq_false (fun h => absurd (hok.1 h) (by omega))]; simp [h5]
      ·rw [decide_eq_true (hok.2 (by omega))]; simp [h5]
     ·rw [decide_eq_false h4, decide_eq_false (fun h => absurd (hok.1 h) (by omega))]; rfl
    ·rw [if_neg h3, decide_eq_false (fun h => absurd (hok.1 h) (by omega))]; rfl
   ·rw [decide_eq_false h2, decide_eq_false (fun h => absurd (hok.1 h) (by omega))]; rfl
  ·rw [if_neg h1, decide_eq_false (fun h => absurd (hok.1 h) (by omega))]; rfl

theorem nDigits_le : ∀ (k u : Nat), 1 ≤ k → u < 10 ^ k → Lib.nDigits u ≤ k
 | 0, _, h, _ => by omega
 | k + 1, u, _, h => by
  by_cases hs : u < 10
  ·rw [Lib.nDigits_small hs]; omega
  ·rw [Lib.nDigits_big hs]
   have hk : 1 ≤ k := by
    rcases Nat.eq_zero_or_pos k with h0 | h0
    ·subst h0; simp at h; omega
    ·exact h0
   have := nDigits_le k (u / 10) hk (by rw [Nat.pow_succ] at h; omega)
   omega
theorem decDigits_le8 {u : Nat} (h : u ≤ 99999999) : 1 ≤ (Lib.decDigits u).length ∧ (Lib.decDigits u).length ≤ 8 := by
 rw [Lib.decDigits_length]
 exact ⟨Lib.nDigits_pos _, nDigits_le 8 u (by omega) (by omega)⟩
theorem w64 {n : Int} (h0 : -9223372036854775808 ≤ n) (h1 : n ≤ 9223372036854775807) : wrap64 n = n := by unfold wrap64; omega
theorem tdivN (u : Nat) : Int.tdiv (u : Int) 10 = ((u / 10 : Nat) : Int) := by rw [Int.tdiv_eq_ediv_of_nonneg (by omega)]; omega
theorem tmodN (u : Nat) : Int.tmod (u : Int) 10 = ((u % 10 : Nat) : Int) := by rw [Int.tmod_eq_emod_of_nonneg (by omega)]; omega
theorem digStr (u : Nat) (h : u < 10) : strOfNums ([(wrap64 (48 + (u : Int))) % 256] : List Int) = bs [UInt8.ofNat (48 + u)] := by
 rw [w64 (by omega) (by omega), show (48 + (u : Int)) % 256 = ((48 + u : Nat) : Int) by omega]
 rfl
theorem spec_dec : ∀ (n u : Nat), 1 ≤ n → n ≤ 8 → u < 10 ^ n → ∀ k, n ≤ k → spec_l1Dec.f k (u : Int) = some (bs (Lib.decDigits u))
 | 0, _, h, _, _, _, _ => absurd h (by omega)
 | n + 1, u, _, h8, hu, 0, hk => absurd hk (by omega)
 | n + 1, u, _, h8, hu, k + 1, hk => by
  have hb : u ≤ 99999999 := by
   have : (10 : Nat) ^ (n + 1) ≤ 10 ^ 8 := Nat.pow_le_pow_right (by omega) h8
   omega
  rw [spec_l1Dec.f, if_neg (by omega), if_neg (by omega)]
  by_cases h : u < 10
  ·rw [if_pos (by omega), digStr u h, Lib.decDigits, dif_pos h]
  ·rw [if_neg (by omega), tdivN, tmodN, w64 (by omega) (by omega)]
   have hn : 1 ≤ n := by
    rcases Nat.eq_zero_or_pos n with h0 | h0
    ·subst h0; simp at hu; omega
    ·exact h0
   rw [spec_dec n (u / 10) hn (by omega) (by rw [Nat.pow_succ] at hu; omega) k (by omega), Option.bind_some, Option.bind_some, digStr _ (Nat.mod_lt _ (by omega))]
   have hl := (decDigits_le8 (u := u / 10) (by omega)).2
   rw [if_pos (by rw [bs_size, bs_size]; simp; omega), bs_app]
   conv => rhs; rw [Lib.decDigits, dif_neg h]
end Go.Proofs.YtebcepbamlokcaaDoor.Q
namespace Go.Proofs.YtebcepbamlokcaaDoor.Q
open Go.RowKit Go.Proofs.YtebcepbamlokcaaDoorW.PrintWords Go.Proofs.YtebcepbamlokcaaDoorW.PrintLast
set_option linter.unusedVariables false
set_option linter.unusedSimpArgs false

abbrev ElemF := Int → Int → Int → ByteArray → List (S28) → List ByteArray → Option Bool
abbrev ElemC (fn : Nat) (mk : Value → Array Value) (w : World) (g : ElemF) : Prop := ∀ (a0_0 : Int) (a0_1 : Int) (a0_2 : Int) (a0_3 : ByteArray) (A0_4 : Option Addr) (c0_4 : Nat) (l0_4 : List (S28)) (A0_5 : Option Addr) (c0_5 : Nat) (l0_5 : List ByteArray) (r : Bool) (W : World), Below w.heap.size w W → Kd.C k28 W A0_4 l0_4.length l0_4 → l0_4.length ≤ c0_4 → Kd.C Kd.string W A0_5 l0_5.length l0_5 → l0_5.length ≤ c0_5 → g a0_0 a0_1 a0_2 a0_3 l0_4 l0_5 = some r →
    Calls Tryd.prog fn (mk (.agg #[.int .i64 a0_0, .int .i64 a0_1, .int .i64 a0_2, .string a0_3, .slice A0_4 l0_4.length c0_4, .slice A0_5 l0_5.length c0_5])) W fun e w' => e = .returned (.bool r) ∧ Below W.heap.size W w'
def idxF.l0 (g : ElemF) : Nat → List (S28) → Int → Int → Option (Int)
  | 0, _, _, _ => none
  | k + 1, x0, x7, x8 => if x8 < x7 then (if 0 ≤ x8 then (if x8 < (x0.length : Int) then ((g ((rd_T28 x0 x8).f0) ((rd_T28 x0 x8).f1.f0) ((rd_T28 x0 x8).f1.f1) ((rd_T28 x0 x8).f2) ((rd_T28 x0 x8).f3) ((rd_T28 x0 x8).f4)).bind fun t313 => (if t313 = true then (some x8) else (idxF.l0 g k x0 x7 (wrap64 (x8 + 1))))) else (none)) else (none)) else (some (-1))
def idxF.f (g : ElemF) (k : Nat) (l0 : List (S28)) : Option (Int) := idxF.l0 g k l0 (l0.length : Int) 0

theorem idxF.mono_l (g g' : ElemF) (hg : ∀ a b c d e f, LeO (g a b c d e f) (g' a b c d e f)) : ∀ k, (∀ y0 y1 y2, LeO (idxF.l0 g k y0 y1 y2) (idxF.l0 g' (k + 1) y0 y1 y2))
  | 0 => fun _ _ _ r h => by simp [idxF.l0] at h
  | k + 1 => by
    have ih0 := idxF.mono_l g g' hg k
    · intro y0 y1 y2
      unfold idxF.l0
      repeat' first
      | (with_reducible exact ih0 _ _ _)
      | (with_reducible exact hg _ _ _ _ _ _)
      | (with_reducible exact LeO.refl _)
      | (with_reducible exact LeO.none _)
      | (with_reducible refine LeO.ite ?_ ?_)
      | (with_reducible refine LeO.bind ?_ (fun _ => ?_))
      | exact ih0 _ _ _
      | exact hg _ _ _ _ _ _
      | exact LeO.none _
      | refine LeO.ite ?_ ?_
      | refine LeO.bind ?_ (fun _ => ?_)

set_option maxHeartbeats 8000000 in
set_option maxRecDepth 100000 in
theorem idxF.calls_valueOk1 (g : ElemF) (gq : Nat) (k : Nat) (A0 : Option Addr) (c0 : Nat) (l0 : List (S28)) (r : Int) (w : World) (hcall : ElemC 107 (fun v_ => #[v_, .pointer (some ⟨gq, 0, none⟩)]) w g) (hr0 : Kd.C k28 w A0 l0.length l0) (hc0 : l0.length ≤ c0) (h : idxF.f g k l0 = some r) :
    Calls Tryd.prog 132 #[.slice A0 l0.length c0, .func (.func 107) #[] #[.pointer (some ⟨gq, 0, none⟩)]] w fun e w' => e = .returned (.int .i64 r) ∧ Below w.heap.size w w' := by
  have hu28 := Tryd.underlying28
  have HCALL := Aside0.mk hcall
  clear hcall
  have HR0 := Aside0.mk hr0
  have HC0 := Aside0.mk hc0
  clear hr0 hc0
  have HB := Aside0.mk (Below.refl w.heap.size w)
  have H : (idxF.l0 g k l0 (l0.length : Int) 0) = some r := h
  clear h
  have H' := Aside0.mk H
  clear H
  go_enter Tryd.func132, Tryd.ntmps132
  go_wp2
  go_loopg [8] k (fun kq v8 w' => ∃ (x8_1 : Int), v8 = .int .i64 x8_1 ∧ Aside0 (idxF.l0 g kq l0 (l0.length : Int) x8_1 = some r) ∧ Aside0 (kq ≤ k) ∧ Aside0 (Below w.heap.size w w'))
  case atStart => exact ⟨(0), (by first | rfl | (simp; done) | (simp [*]; done)), H', ⟨Nat.le_refl _⟩, ⟨by repeat (first | (with_reducible first | exact HB.out | apply below_alloc | apply pw_below_drewN | apply below_drew1) | exact HB.out)⟩⟩
  case round =>
    clear H'
    try clear c1
    obtain ⟨x8_1, rfl, HA, HK1, HB⟩ := hrel
    cases gk with
    | zero => exact absurd HA.out (by simp [idxF.l0])
    | succ k1 =>
      have H := HA.out
      clear HA
      simp only [idxF.l0] at H
      by_cases c2 : x8_1 < (l0.length : Int)
      · rw [if_pos c2] at H
        have c2b0 : decide (x8_1 < (l0.length : Int)) = true := decide_eq_true c2
        clear c2
        by_cases c3 : 0 ≤ x8_1
        · rw [if_pos c3] at H
          have c3b0 : decide (0 ≤ x8_1) = true := decide_eq_true c3
          have c3q := c3
          clear c3
          by_cases c4 : x8_1 < (l0.length : Int)
          · rw [if_pos c4] at H
            have c4b0 : decide (x8_1 < (l0.length : Int)) = true := decide_eq_true c4
            clear c4
            replace H := Option.bind_eq_some_iff.mp H
            obtain ⟨t313, A50, H⟩ := H
            replace H : (if t313 = true then (some x8_1) else (idxF.l0 g k1 l0 (l0.length : Int) (wrap64 (x8_1 + 1)))) = some r := H
            have A5 := Aside0.mk A50
            clear A50
            by_cases c6 : t313 = true
            · subst c6
              have H1 : (some x8_1) = some r := by rw [if_pos rfl] at H; exact H
              clear H
              have H := H1
              clear H1
              obtain rfl := Option.some.inj H
              have p312 : 0 ≤ (x8_1 : Int) := of_decide_eq_true (by first | (with_reducible assumption) | assumption)
              have q312 : x8_1 < (l0.length : Int) := of_decide_eq_true (by first | (with_reducible assumption) | assumption)
              obtain ⟨ad312, A312_4, c312_4, A312_5, c312_5, e312, hx312_0, hx312_1, hx312_2, hx312_3, hx312_4, hx312_5, hl312_4, hi312_4, hl312_5, hi312_5⟩ := at_T28 HR0.out x8_1 p312 q312
              cases e312
              replace hx312_0 := (HB.out.cell (World.block_lt_of_cell? w _ hx312_0)).trans hx312_0
              replace hx312_1 := (HB.out.cell (World.block_lt_of_cell? w _ hx312_1)).trans hx312_1
              replace hx312_2 := (HB.out.cell (World.block_lt_of_cell? w _ hx312_2)).trans hx312_2
              replace hx312_3 := (HB.out.cell (World.block_lt_of_cell? w _ hx312_3)).trans hx312_3
              replace hx312_4 := (HB.out.cell (World.block_lt_of_cell? w _ hx312_4)).trans hx312_4
              replace hx312_5 := (HB.out.cell (World.block_lt_of_cell? w _ hx312_5)).trans hx312_5
              have HR312_4 := Aside0.mk hi312_4
              have HC312_4 := Aside0.mk hl312_4
              clear hi312_4 hl312_4
              have HR312_5 := Aside0.mk hi312_5
              have HC312_5 := Aside0.mk hl312_5
              clear hi312_5 hl312_5
              replace p312 := eq_true p312
              replace q312 := eq_true q312
              go_wp2_with (first | (go_at_call 107; (with_reducible refine (HCALL.out ((rd_T28 l0 x8_1).f0) ((rd_T28 l0 x8_1).f1.f0) ((rd_T28 l0 x8_1).f1.f1) ((rd_T28 l0 x8_1).f2) _ _ ((rd_T28 l0 x8_1).f3) _ _ ((rd_T28 l0 x8_1).f4) true _ ?side0 ?side1 ?side2 ?side3 ?side4 A5.out).mono ?_); (case side0 => repeat (first | (with_reducible first | exact HB.out | apply below_alloc | apply pw_below_drewN | apply below_drew1) | exact HB.out)); (case side1 => repeat (first | exact (Kd.C_below HR312_4.out HB.out) | (with_reducible refine Kd.C_alloc ?_ _) | (with_reducible refine Kd.C_drewN ?_ _) | (with_reducible refine Kd.C_drew ?_))); (case side2 => exact HC312_4.out); (case side3 => repeat (first | exact (Kd.C_below HR312_5.out HB.out) | (with_reducible refine Kd.C_alloc ?_ _) | (with_reducible refine Kd.C_drewN ?_ _) | (with_reducible refine Kd.C_drew ?_))); (case side4 => exact HC312_5.out); rintro e w7 ⟨rfl, hb⟩; have n0_ := Aside0.mk (below_step (by repeat (first | (with_reducible first | exact HB.out | apply below_alloc | apply pw_below_drewN | apply below_drew1) | exact HB.out)) hb); clear HB; have HB := n0_; clear n0_; (try clear hb); (try clear hb2); (try clear hk); (try clear hi)))
              go_ret
              exact ⟨by first | rfl | (simp [errW_none, errW_some] <;> rfl) | (simp [*, errW_none, errW_some] <;> rfl), by repeat (first | (with_reducible first | exact HB.out | apply below_alloc | apply pw_below_drewN | apply below_drew1) | exact HB.out)⟩
            · replace c6 := Bool.eq_false_iff.mpr c6
              subst c6
              have H1 : (idxF.l0 g k1 l0 (l0.length : Int) (wrap64 (x8_1 + 1))) = some r := by rw [if_neg (show ¬ (false = true) by decide)] at H; exact H
              clear H
              have H := H1
              clear H1
              have H' := Aside0.mk H
              clear H
              have p312 : 0 ≤ (x8_1 : Int) := of_decide_eq_true (by first | (with_reducible assumption) | assumption)
              have q312 : x8_1 < (l0.length : Int) := of_decide_eq_true (by first | (with_reducible assumption) | assumption)
              obtain ⟨ad312, A312_4, c312_4, A312_5, c312_5, e312, hx312_0, hx312_1, hx312_2, hx312_3, hx312_4, hx312_5, hl312_4, hi312_4, hl312_5, hi312_5⟩ := at_T28 HR0.out x8_1 p312 q312
              cases e312
              replace hx312_0 := (HB.out.cell (World.block_lt_of_cell? w _ hx312_0)).trans hx312_0
              replace hx312_1 := (HB.out.cell (World.block_lt_of_cell? w _ hx312_1)).trans hx312_1
              replace hx312_2 := (HB.out.cell (World.block_lt_of_cell? w _ hx312_2)).trans hx312_2
              replace hx312_3 := (HB.out.cell (World.block_lt_of_cell? w _ hx312_3)).trans hx312_3
              replace hx312_4 := (HB.out.cell (World.block_lt_of_cell? w _ hx312_4)).trans hx312_4
              replace hx312_5 := (HB.out.cell (World.block_lt_of_cell? w _ hx312_5)).trans hx312_5
              have HR312_4 := Aside0.mk hi312_4
              have HC312_4 := Aside0.mk hl312_4
              clear hi312_4 hl312_4
              have HR312_5 := Aside0.mk hi312_5
              have HC312_5 := Aside0.mk hl312_5
              clear hi312_5 hl312_5
              replace p312 := eq_true p312
              replace q312 := eq_true q312
              go_wp2_with (first | (go_at_call 107; (with_reducible refine (HCALL.out ((rd_T28 l0 x8_1).f0) ((rd_T28 l0 x8_1).f1.f0) ((rd_T28 l0 x8_1).f1.f1) ((rd_T28 l0 x8_1).f2) _ _ ((rd_T28 l0 x8_1).f3) _ _ ((rd_T28 l0 x8_1).f4) false _ ?side0 ?side1 ?side2 ?side3 ?side4 A5.out).mono ?_); (case side0 => repeat (first | (with_reducible first | exact HB.out | apply below_alloc | apply pw_below_drewN | apply below_drew1) | exact HB.out)); (case side1 => repeat (first | exact (Kd.C_below HR312_4.out HB.out) | (with_reducible refine Kd.C_alloc ?_ _) | (with_reducible refine Kd.C_drewN ?_ _) | (with_reducible refine Kd.C_drew ?_))); (case side2 => exact HC312_4.out); (case side3 => repeat (first | exact (Kd.C_below HR312_5.out HB.out) | (with_reducible refine Kd.C_alloc ?_ _) | (with_reducible refine Kd.C_drewN ?_ _) | (with_reducible refine Kd.C_drew ?_))); (case side4 => exact HC312_5.out); rintro e w8 ⟨rfl, hb⟩; have n0_ := Aside0.mk (below_step (by repeat (first | (with_reducible first | exact HB.out | apply below_alloc | apply pw_below_drewN | apply below_drew1) | exact HB.out)) hb); clear HB; have HB := n0_; clear n0_; (try clear hb); (try clear hb2); (try clear hk); (try clear hi)))
              go_roundg k1
              case measure => have := HK1.out; omega
              case rel => exact ⟨(wrap64 (x8_1 + 1)), (by first | rfl | (simp; done) | (simp [*]; done)), H', ⟨by have := HK1.out; omega⟩, ⟨by repeat (first | (with_reducible first | exact HB.out | apply below_alloc | apply pw_below_drewN | apply below_drew1) | exact HB.out)⟩⟩
          · rw [if_neg c4] at H
            exact absurd H (by simp)
        · rw [if_neg c3] at H
          exact absurd H (by simp)
      · rw [if_neg c2] at H
        have c2b0 : decide (x8_1 < (l0.length : Int)) = false := decide_eq_false c2
        clear c2
        obtain rfl := Option.some.inj H
        go_wp2
        go_ret
        exact ⟨by first | rfl | (simp [errW_none, errW_some] <;> rfl) | (simp [*, errW_none, errW_some] <;> rfl), by repeat (first | (with_reducible first | exact HB.out | apply below_alloc | apply pw_below_drewN | apply below_drew1) | exact HB.out)⟩

theorem conF.calls_valueOk1 (g : ElemF) (gq : Nat) (k : Nat) (A0 : Option Addr) (c0 : Nat) (l0 : List (S28)) (i : Int) (w : World) (hcall : ElemC 107 (fun v_ => #[v_, .pointer (some ⟨gq, 0, none⟩)]) w g) (hr0 : Kd.C k28 w A0 l0.length l0) (hc0 : l0.length ≤ c0) (h : idxF.f g k l0 = some i) :
    Calls Tryd.prog 100 #[.slice A0 l0.length c0, .func (.func 107) #[] #[.pointer (some ⟨gq, 0, none⟩)]] w fun e w' => e = .returned (.bool (decide (i ≥ 0))) ∧ Below w.heap.size w w' := by
  have HC := Aside0.mk hcall
  have HR := Aside0.mk hr0
  have HL := Aside0.mk hc0
  have HI := Aside0.mk h
  clear hcall hr0 hc0 h
  go_enter Tryd.func100, Tryd.ntmps100
  go_wp2_with (first | (go_at_call 132; (with_reducible refine (idxF.calls_valueOk1 g gq k _ _ l0 i _ HC.out HR.out HL.out HI.out).mono ?_); rintro e w1 ⟨rfl, hb⟩; have HB1 := Aside0.mk hb; clear hb))
  go_ret
  exact ⟨by rfl, HB1.out⟩

end Go.Proofs.YtebcepbamlokcaaDoor.Q
namespace Go.Proofs.YtebcepbamlokcaaDoor.Q
open Go.RowKit Go.Proofs.YtebcepbamlokcaaDoorW.PrintWords Go.Proofs.YtebcepbamlokcaaDoorW.PrintLast
attribute [local go_sem high] eqA24
set_option linter.unusedVariables false
set_option linter.unusedSimpArgs false

theorem qGVals0_ {P : Prop} (h : P := by repeat (first | (with_reducible first | exact HB.out | apply below_alloc | apply pw_below_drewN | apply below_drew1 | refine below_set ?_ GE316.out) | exact HB.out)) : P := h
theorem qGVals1_ {P : Prop} (h : P := by (with_reducible repeat (first | refine blk_drewN ?_ _ | refine blk_drew ?_ | refine blk_alloc ?_ _)); exact BK3.out) : P := h
theorem qGVals2_ {P : Prop} (h : P := by (with_reducible repeat (first | refine blk_drewN ?_ _ | refine blk_drew ?_ | refine blk_alloc ?_ _)); exact BK316.out) : P := h
theorem qGVals3_ {P : Prop} (h : P := by first | rfl | (simp; done) | (simp [*]; done)) : P := h
theorem qGVals4_ {P : Prop} (h : P := by (try simp only [List.map_toArray, List.map_cons, List.map_nil]); first | done | rfl | (simp only [List.length_drop, List.length_take]; rfl)) : P := h
theorem qGVals5_ {P : Prop} (h : P := by first | omega | exact Nat.le_refl _) : P := h
theorem qGVals6_ {P : Prop} (h : P := by first | rfl | (simp [errW_none, errW_some] <;> rfl) | (simp [*, errW_none, errW_some] <;> rfl)) : P := h
theorem qGVals7_ {P : Prop} (h : P := by first | (with_reducible assumption) | assumption) : P := h
theorem qGVals8_ {P : Prop} (h : P := by repeat (first | (with_reducible first | exact HB.out | apply below_alloc | apply pw_below_drewN | apply below_drew1) | exact HB.out)) : P := h
theorem qGVals9_ {P : Prop} (h : P := by repeat (first | exact (Kd.C_below HR0_4.out HB.out) | (with_reducible refine Kd.C_alloc ?_ _) | (with_reducible refine Kd.C_drewN ?_ _) | (with_reducible refine Kd.C_drew ?_))) : P := h
theorem qGVals10_ {P : Prop} (h : P := by exact ⟨(by have := HJ2.out; first | omega | exact Nat.le_refl _)⟩) : P := h
theorem qGVals11_ {P : Prop} (h : P := by exact LaidG.below (m := 2) (by decide) HGL.out qGVals0_) : P := h
theorem qGVals12_ {P : Prop} (h : P := by exact ⟨(wrap64 (x75_3 + 1)), qGVals3_, H', ⟨(by have := HJ2.out; have := HJ51.out; have := HK3.out; omega)⟩, ⟨qGVals2_⟩, ⟨qGVals1_⟩, ⟨qGVals0_⟩⟩) : P := h
mutual
def impl_valueOk.j0 : Nat → Int → Bool → Int → Int → Int → ByteArray → List (S28) → List ByteArray → Option (Bool)
 | 0, _, _, _, _, _, _, _, _ => none
 | k + 1, x3, x51, x317000, x317001, x317002, x317003, x317004, x317005 => if x51 = true then (some false) else (if x317000 = 0 then (impl_valueOk.j1 k x3 x317000 (x317000 == 0) x317000 x317001 x317002 x317003 x317004 x317005) else (if x317000 = 1 then (impl_valueOk.j1 k x3 x317000 (x317000 == 1) x317000 x317001 x317002 x317003 x317004 x317005) else (if x317000 = 2 then (impl_valueOk.j1 k x3 x317000 (x317000 == 2) x317000 x317001 x317002 x317003 x317004 x317005) else (impl_valueOk.j1 k x3 x317000 (x317000 == 5) x317000 x317001 x317002 x317003 x317004 x317005))))
def impl_valueOk.j1 : Nat → Int → Int → Bool → Int → Int → Int → ByteArray → List (S28) → List ByteArray → Option (Bool)
 | 0, _, _, _, _, _, _, _, _, _ => none
 | k + 1, x3, x53, x54, x317000, x317001, x317002, x317003, x317004, x317005 => if x54 = true then (((idxF.f (fun b0 b1 b2 b3 b4 b5 => (impl_valueOk.r k b0 b1 b2 b3 b4 b5 (wrap64 (x3 - 1))).bind fun t_ => some (!t_)) k x317004).bind fun i_ => some (decide (i_ ≥ 0))).bind fun t317 => (some (!t317))) else (if x53 = 3 then ((impl_DecOk.f x317001 x317002).bind fun t318 => (some t318)) else (if x53 = 4 then (some (decide ((x317003.size : Int) ≤ 1500))) else (if x53 = 6 then (impl_valueOk.l0 k x3 x317005 (x317005.length : Int) 0 x317000 x317001 x317002 x317003 x317004 x317005) else (some false))))
def impl_valueOk.l0 : Nat → Int → List ByteArray → Int → Int → Int → Int → Int → ByteArray → List (S28) → List ByteArray → Option (Bool)
 | 0, _, _, _, _, _, _, _, _, _, _ => none
 | k + 1, x3, x73, x74, x75, x317000, x317001, x317002, x317003, x317004, x317005 => if x75 < x74 then (if 0 ≤ x75 then (if x75 < (x73.length : Int) then ((impl_NameOk.f (rdOf ByteArray.empty x73 x75)).bind fun t320 => (if t320 = true then (if x75 > 0 then (if 0 ≤ (wrap64 (x75 - 1)) then (if (wrap64 (x75 - 1)) < (x317005.length : Int) then (if ((Op.bytesLess ((rdOf ByteArray.empty x317005 (wrap64 (x75 - 1))).toList) ((rdOf ByteArray.empty x73 x75).toList)) = true) then (impl_valueOk.l0 k x3 x73 x74 (wrap64 (x75 + 1)) x317000 x317001 x317002 x317003 x317004 x317005) else (some false)) else (none)) else (none)) else (impl_valueOk.l0 k x3 x73 x74 (wrap64 (x75 + 1)) x317000 x317001 x317002 x317003 x317004 x317005)) else (some false))) else (none)) else (none)) else (if (x317005.length : Int) = (x317004.length : Int) then (((idxF.f (fun b0 b1 b2 b3 b4 b5 => (impl_valueOk.r k b0 b1 b2 b3 b4 b5 (wrap64 (x3 - 1))).bind fun t_ => some (!t_)) k x317004).bind fun i_ => some (decide (i_ ≥ 0))).bind fun t322 => (some (!t322))) else (some false))
def impl_valueOk.r : Nat → Int → Int → Int → ByteArray → List (S28) → List ByteArray → Int → Option (Bool)
 | 0, _, _, _, _, _, _, _ => none
 | k + 1, a0_0, a0_1, a0_2, a0_3, l0_4, l0_5, a1 => if a1 = 0 then (impl_valueOk.j0 k a1 true a0_0 a0_1 a0_2 a0_3 l0_4 l0_5) else (if a0_0 = 3 then (if a0_0 = 4 then (if a0_0 < 5 then (if (l0_4.length : Int) > 0 then (impl_valueOk.j0 k a1 true a0_0 a0_1 a0_2 a0_3 l0_4 l0_5) else (if a0_0 = 6 then (impl_valueOk.j0 k a1 false a0_0 a0_1 a0_2 a0_3 l0_4 l0_5) else (impl_valueOk.j0 k a1 (decide ((l0_5.length : Int) > 0)) a0_0 a0_1 a0_2 a0_3 l0_4 l0_5))) else (if a0_0 = 6 then (impl_valueOk.j0 k a1 false a0_0 a0_1 a0_2 a0_3 l0_4 l0_5) else (impl_valueOk.j0 k a1 (decide ((l0_5.length : Int) > 0)) a0_0 a0_1 a0_2 a0_3 l0_4 l0_5))) else (if a0_3.toList = ([] : List UInt8) then (if a0_0 < 5 then (if (l0_4.length : Int) > 0 then (impl_valueOk.j0 k a1 true a0_0 a0_1 a0_2 a0_3 l0_4 l0_5) else (if a0_0 = 6 then (impl_valueOk.j0 k a1 false a0_0 a0_1 a0_2 a0_3 l0_4 l0_5) else (impl_valueOk.j0 k a1 (decide ((l0_5.length : Int) > 0)) a0_0 a0_1 a0_2 a0_3 l0_4 l0_5))) else (if a0_0 = 6 then (impl_valueOk.j0 k a1 false a0_0 a0_1 a0_2 a0_3 l0_4 l0_5) else (impl_valueOk.j0 k a1 (decide ((l0_5.length : Int) > 0)) a0_0 a0_1 a0_2 a0_3 l0_4 l0_5))) else (impl_valueOk.j0 k a1 true a0_0 a0_1 a0_2 a0_3 l0_4 l0_5))) else (if (!(a0_1 == 0) || (!(a0_2 == 0))) = true then (impl_valueOk.j0 k a1 true a0_0 a0_1 a0_2 a0_3 l0_4 l0_5) else (if a0_0 = 4 then (if a0_0 < 5 then (if (l0_4.length : Int) > 0 then (impl_valueOk.j0 k a1 true a0_0 a0_1 a0_2 a0_3 l0_4 l0_5) else (if a0_0 = 6 then (impl_valueOk.j0 k a1 false a0_0 a0_1 a0_2 a0_3 l0_4 l0_5) else (impl_valueOk.j0 k a1 (decide ((l0_5.length : Int) > 0)) a0_0 a0_1 a0_2 a0_3 l0_4 l0_5))) else (if a0_0 = 6 then (impl_valueOk.j0 k a1 false a0_0 a0_1 a0_2 a0_3 l0_4 l0_5) else (impl_valueOk.j0 k a1 (decide ((l0_5.length : Int) > 0)) a0_0 a0_1 a0_2 a0_3 l0_4 l0_5))) else (if a0_3.toList = ([] : List UInt8) then (if a0_0 < 5 then (if (l0_4.length : Int) > 0 then (impl_valueOk.j0 k a1 true a0_0 a0_1 a0_2 a0_3 l0_4 l0_5) else (if a0_0 = 6 then (impl_valueOk.j0 k a1 false a0_0 a0_1 a0_2 a0_3 l0_4 l0_5) else (impl_valueOk.j0 k a1 (decide ((l0_5.length : Int) > 0)) a0_0 a0_1 a0_2 a0_3 l0_4 l0_5))) else (if a0_0 = 6 then (impl_valueOk.j0 k a1 false a0_0 a0_1 a0_2 a0_3 l0_4 l0_5) else (impl_valueOk.j0 k a1 (decide ((l0_5.length : Int) > 0)) a0_0 a0_1 a0_2 a0_3 l0_4 l0_5))) else (impl_valueOk.j0 k a1 true a0_0 a0_1 a0_2 a0_3 l0_4 l0_5)))))
end
def impl_valueOk.f (k : Nat) (a0_0 : Int) (a0_1 : Int) (a0_2 : Int) (a0_3 : ByteArray) (l0_4 : List (S28)) (l0_5 : List ByteArray) (a1 : Int) : Option (Bool) := if a1 = 0 then (impl_valueOk.j0 k a1 true a0_0 a0_1 a0_2 a0_3 l0_4 l0_5) else (if a0_0 = 3 then (if a0_0 = 4 then (if a0_0 < 5 then (if (l0_4.length : Int) > 0 then (impl_valueOk.j0 k a1 true a0_0 a0_1 a0_2 a0_3 l0_4 l0_5) else (if a0_0 = 6 then (impl_valueOk.j0 k a1 false a0_0 a0_1 a0_2 a0_3 l0_4 l0_5) else (impl_valueOk.j0 k a1 (decide ((l0_5.length : Int) > 0)) a0_0 a0_1 a0_2 a0_3 l0_4 l0_5))) else (if a0_0 = 6 then (impl_valueOk.j0 k a1 false a0_0 a0_1 a0_2 a0_3 l0_4 l0_5) else (impl_valueOk.j0 k a1 (decide ((l0_5.length : Int) > 0)) a0_0 a0_1 a0_2 a0_3 l0_4 l0_5))) else (if a0_3.toList = ([] : List UInt8) then (if a0_0 < 5 then (if (l0_4.length : Int) > 0 then (impl_valueOk.j0 k a1 true a0_0 a0_1 a0_2 a0_3 l0_4 l0_5) else (if a0_0 = 6 then (impl_valueOk.j0 k a1 false a0_0 a0_1 a0_2 a0_3 l0_4 l0_5) else (impl_valueOk.j0 k a1 (decide ((l0_5.length : Int) > 0)) a0_0 a0_1 a0_2 a0_3 l0_4 l0_5))) else (if a0_0 = 6 then (impl_valueOk.j0 k a1 false a0_0 a0_1 a0_2 a0_3 l0_4 l0_5) else (impl_valueOk.j0 k a1 (decide ((l0_5.length : Int) > 0)) a0_0 a0_1 a0_2 a0_3 l0_4 l0_5))) else (impl_valueOk.j0 k a1 true a0_0 a0_1 a0_2 a0_3 l0_4 l0_5))) else (if (!(a0_1 == 0) || (!(a0_2 == 0))) = true then (impl_valueOk.j0 k a1 true a0_0 a0_1 a0_2 a0_3 l0_4 l0_5) else (if a0_0 = 4 then (if a0_0 < 5 then (if (l0_4.length : Int) > 0 then (impl_valueOk.j0 k a1 true a0_0 a0_1 a0_2 a0_3 l0_4 l0_5) else (if a0_0 = 6 then (impl_valueOk.j0 k a1 false a0_0 a0_1 a0_2 a0_3 l0_4 l0_5) else (impl_valueOk.j0 k a1 (decide ((l0_5.length : Int) > 0)) a0_0 a0_1 a0_2 a0_3 l0_4 l0_5))) else (if a0_0 = 6 then (impl_valueOk.j0 k a1 false a0_0 a0_1 a0_2 a0_3 l0_4 l0_5) else (impl_valueOk.j0 k a1 (decide ((l0_5.length : Int) > 0)) a0_0 a0_1 a0_2 a0_3 l0_4 l0_5))) else (if a0_3.toList = ([] : List UInt8) then (if a0_0 < 5 then (if (l0_4.length : Int) > 0 then (impl_valueOk.j0 k a1 true a0_0 a0_1 a0_2 a0_3 l0_4 l0_5) else (if a0_0 = 6 then (impl_valueOk.j0 k a1 false a0_0 a0_1 a0_2 a0_3 l0_4 l0_5) else (impl_valueOk.j0 k a1 (decide ((l0_5.length : Int) > 0)) a0_0 a0_1 a0_2 a0_3 l0_4 l0_5))) else (if a0_0 = 6 then (impl_valueOk.j0 k a1 false a0_0 a0_1 a0_2 a0_3 l0_4 l0_5) else (impl_valueOk.j0 k a1 (decide ((l0_5.length : Int) > 0)) a0_0 a0_1 a0_2 a0_3 l0_4 l0_5))) else (impl_valueOk.j0 k a1 true a0_0 a0_1 a0_2 a0_3 l0_4 l0_5)))))
abbrev conV.f (k : Nat) (l0 : List (S28)) (d : Int) : Option (Bool) := ((idxF.f (fun b0 b1 b2 b3 b4 b5 => (impl_valueOk.r k b0 b1 b2 b3 b4 b5 (wrap64 (d - 1))).bind fun t_ => some (!t_)) k l0).bind fun i_ => some (decide (i_ ≥ 0)))

theorem impl_valueOk.mono_all : ∀ k, (∀ y0 y1 y2 y3 y4 y5 y6 y7, LeO (impl_valueOk.j0 k y0 y1 y2 y3 y4 y5 y6 y7) (impl_valueOk.j0 (k + 1) y0 y1 y2 y3 y4 y5 y6 y7)) ∧ (∀ y0 y1 y2 y3 y4 y5 y6 y7 y8, LeO (impl_valueOk.j1 k y0 y1 y2 y3 y4 y5 y6 y7 y8) (impl_valueOk.j1 (k + 1) y0 y1 y2 y3 y4 y5 y6 y7 y8)) ∧ (∀ y0 y1 y2 y3 y4 y5 y6 y7 y8 y9, LeO (impl_valueOk.l0 k y0 y1 y2 y3 y4 y5 y6 y7 y8 y9) (impl_valueOk.l0 (k + 1) y0 y1 y2 y3 y4 y5 y6 y7 y8 y9)) ∧ (∀ y0 y1 y2 y3 y4 y5 y6, LeO (impl_valueOk.r k y0 y1 y2 y3 y4 y5 y6) (impl_valueOk.r (k + 1) y0 y1 y2 y3 y4 y5 y6))
 | 0 => ⟨fun _ _ _ _ _ _ _ _ r h => by simp [impl_valueOk.j0] at h, fun _ _ _ _ _ _ _ _ _ r h => by simp [impl_valueOk.j1] at h, fun _ _ _ _ _ _ _ _ _ _ r h => by simp [impl_valueOk.l0] at h, fun _ _ _ _ _ _ _ r h => by simp [impl_valueOk.r] at h⟩
 | k + 1 => by
  obtain ⟨ih0, ih1, ih2, ih3⟩ := impl_valueOk.mono_all k
  have ih4 : ∀ d l, LeO ((idxF.f (fun b0 b1 b2 b3 b4 b5 => (impl_valueOk.r k b0 b1 b2 b3 b4 b5 (wrap64 (d - 1))).bind fun t_ => some (!t_)) k l).bind fun i_ => some (decide (i_ ≥ 0))) ((idxF.f (fun b0 b1 b2 b3 b4 b5 => (impl_valueOk.r (k + 1) b0 b1 b2 b3 b4 b5 (wrap64 (d - 1))).bind fun t_ => some (!t_)) (k + 1) l).bind fun i_ => some (decide (i_ ≥ 0))) := fun d l => LeO.bind (idxF.mono_l _ _ (fun a b c e f g_ => LeO.bind (ih3 _ _ _ _ _ _ _) (fun _ => LeO.refl _)) k _ _ _) (fun _ => LeO.refl _)
  refine ⟨?_, ?_, ?_, ?_⟩
  ·intro y0 y1 y2 y3 y4 y5 y6 y7
   unfold impl_valueOk.j0
   repeat' first
   | (with_reducible exact ih0 _ _ _ _ _ _ _ _)
   | (with_reducible exact ih1 _ _ _ _ _ _ _ _ _)
   | (with_reducible exact ih2 _ _ _ _ _ _ _ _ _ _)
   | (with_reducible exact ih4 _ _)
   | (with_reducible exact LeO.refl _)
   | (with_reducible exact LeO.none _)
   | (with_reducible refine LeO.ite ?_ ?_)
   | (with_reducible refine LeO.bind ?_ (fun _ => ?_))
   | exact ih0 _ _ _ _ _ _ _ _
   | exact ih1 _ _ _ _ _ _ _ _ _
   | exact ih2 _ _ _ _ _ _ _ _ _ _
   | exact ih4 _ _
   | exact LeO.none _
   | refine LeO.ite ?_ ?_
   | refine LeO.bind ?_ (fun _ => ?_)
  ·intro y0 y1 y2 y3 y4 y5 y6 y7 y8
   unfold impl_valueOk.j1
   repeat' first
   | (with_reducible exact ih0 _ _ _ _ _ _ _ _)
   | (with_reducible exact ih1 _ _ _ _ _ _ _ _ _)
   | (with_reducible exact ih2 _ _ _ _ _ _ _ _ _ _)
   | (with_reducible exact ih4 _ _)
   | (with_reducible exact LeO.refl _)
   | (with_reducible exact LeO.none _)
   | (with_reducible refine LeO.ite ?_ ?_)
   | (with_reducible refine LeO.bind ?_ (fun _ => ?_))
   | exact ih0 _ _ _ _ _ _ _ _
   | exact ih1 _ _ _ _ _ _ _ _ _
   | exact ih2 _ _ _ _ _ _ _ _ _ _
   | exact ih4 _ _
   | exact LeO.none _
   | refine LeO.ite ?_ ?_
   | refine LeO.bind ?_ (fun _ => ?_)
  ·intro y0 y1 y2 y3 y4 y5 y6 y7 y8 y9
   unfold impl_valueOk.l0
   repeat' first
   | (with_reducible exact ih0 _ _ _ _ _ _ _ _)
   | (with_reducible exact ih1 _ _ _ _ _ _ _ _ _)
   | (with_reducible exact ih2 _ _ _ _ _ _ _ _ _ _)
   | (with_reducible exact ih4 _ _)
   | (with_reducible exact LeO.refl _)
   | (with_reducible exact LeO.none _)
   | (with_reducible refine LeO.ite ?_ ?_)
   | (with_reducible refine LeO.bind ?_ (fun _ => ?_))
   | exact ih0 _ _ _ _ _ _ _ _
   | exact ih1 _ _ _ _ _ _ _ _ _
   | exact ih2 _ _ _ _ _ _ _ _ _ _
   | exact ih4 _ _
   | exact LeO.none _
   | refine LeO.ite ?_ ?_
   | refine LeO.bind ?_ (fun _ => ?_)
  ·intro y0 y1 y2 y3 y4 y5 y6
   unfold impl_valueOk.r
   repeat' first
   | (with_reducible exact ih0 _ _ _ _ _ _ _ _)
   | (with_reducible exact ih1 _ _ _ _ _ _ _ _ _)
   | (with_reducible exact ih2 _ _ _ _ _ _ _ _ _ _)
   | (with_reducible exact ih4 _ _)
   | (with_reducible exact LeO.refl _)
   | (with_reducible exact LeO.none _)
   | (with_reducible refine LeO.ite ?_ ?_)
   | (with_reducible refine LeO.bind ?_ (fun _ => ?_))
   | exact ih0 _ _ _ _ _ _ _ _
   | exact ih1 _ _ _ _ _ _ _ _ _
   | exact ih2 _ _ _ _ _ _ _ _ _ _
   | exact ih4 _ _
   | exact LeO.none _
   | refine LeO.ite ?_ ?_
   | refine LeO.bind ?_ (fun _ => ?_)
theorem impl_valueOk.mono : ∀ y0 y1 y2 y3 y4 y5 y6 k, LeO (impl_valueOk.f k y0 y1 y2 y3 y4 y5 y6) (impl_valueOk.f (k + 1) y0 y1 y2 y3 y4 y5 y6) := by
 intro y0 y1 y2 y3 y4 y5 y6 k
 have := (impl_valueOk.mono_all (k + 1)).2.2.2 y0 y1 y2 y3 y4 y5 y6
 simp only [impl_valueOk.r] at this
 exact this

abbrev OkV (k : Nat) : Prop := ∀ (a0_0 : Int) (a0_1 : Int) (a0_2 : Int) (a0_3 : ByteArray) (A0_4 : Option Addr) (c0_4 : Nat) (l0_4 : List (S28)) (A0_5 : Option Addr) (c0_5 : Nat) (l0_5 : List ByteArray) (a1 : Int) (r : Bool) (w : World) (hr0_4 : Kd.C k28 w A0_4 l0_4.length l0_4) (hc0_4 : l0_4.length ≤ c0_4) (hr0_5 : Kd.C Kd.string w A0_5 l0_5.length l0_5) (hc0_5 : l0_5.length ≤ c0_5) (hG : LaidG 2 w) (h : impl_valueOk.f k a0_0 a0_1 a0_2 a0_3 l0_4 l0_5 a1 = some r),
  Calls Tryd.prog 60 #[.agg #[.int .i64 a0_0, .int .i64 a0_1, .int .i64 a0_2, .string a0_3, .slice A0_4 l0_4.length c0_4, .slice A0_5 l0_5.length c0_5], .int .i64 a1] w fun e w' => e = .returned (.bool r) ∧ Below w.heap.size w w'
abbrev ConV (k : Nat) : Prop := ∀ (A0 : Option Addr) (c0 : Nat) (l0 : List (S28)) (d : Int) (r : Bool) (w : World) (gb : Nat) (hr0 : Kd.C k28 w A0 l0.length l0) (hc0 : l0.length ≤ c0) (hb : w.heap[gb]? = some (.cells #[.int .i64 d] 3 (0, 0))) (hG : LaidG 2 w) (h : conV.f k l0 d = some r),
  Calls Tryd.prog 100 #[.slice A0 l0.length c0, .func (.func 107) #[] #[.pointer (some ⟨gb, 0, none⟩)]] w fun e w' => e = .returned (.bool r) ∧ Below w.heap.size w w'

theorem notOk.calls (k : Nat) (OK : OkV k) (gb : Nat) (d : Int) (a0_0 : Int) (a0_1 : Int) (a0_2 : Int) (a0_3 : ByteArray) (A0_4 : Option Addr) (c0_4 : Nat) (l0_4 : List (S28)) (A0_5 : Option Addr) (c0_5 : Nat) (l0_5 : List ByteArray) (r : Bool) (w : World) (hb : w.heap[gb]? = some (.cells #[.int .i64 d] 3 (0, 0))) (hG : LaidG 2 w) (hr0_4 : Kd.C k28 w A0_4 l0_4.length l0_4) (hc0_4 : l0_4.length ≤ c0_4) (hr0_5 : Kd.C Kd.string w A0_5 l0_5.length l0_5) (hc0_5 : l0_5.length ≤ c0_5) (h : impl_valueOk.f k a0_0 a0_1 a0_2 a0_3 l0_4 l0_5 (wrap64 (d - 1)) = some r) :
  Calls Tryd.prog 107 #[.agg #[.int .i64 a0_0, .int .i64 a0_1, .int .i64 a0_2, .string a0_3, .slice A0_4 l0_4.length c0_4, .slice A0_5 l0_5.length c0_5], .pointer (some ⟨gb, 0, none⟩)] w fun e w' => e = .returned (.bool (!r)) ∧ Below w.heap.size w w' := by
 have hu28 := Tryd.underlying28
 have HR0_4 := Aside0.mk hr0_4
 have HC0_4 := Aside0.mk hc0_4
 have HR0_5 := Aside0.mk hr0_5
 have HC0_5 := Aside0.mk hc0_5
 have HG := Aside0.mk hG
 have HH := Aside0.mk h
 have BK3 := Aside0.mk hb
 clear hr0_4 hc0_4 hr0_5 hc0_5 hG h hb
 have HB := Aside0.mk (Below.refl w.heap.size w)
 go_enter Tryd.func107, Tryd.ntmps107
 go_wp2_with (first | ((with_reducible refine gate_dst (N := 2) rfl ?_); refine box_event ?hg (N := 2) ?hd (cs := #[.int .i64 a0_0, .int .i64 a0_1, .int .i64 a0_2, .string a0_3, .slice A0_4 l0_4.length c0_4, .slice A0_5 l0_5.length c0_5]) (t := 28) ?hr ?_; (case hd => rfl); (case hg => rfl); (case hr => exact (by first | (go_simp; done) | (go_simp; rfl))); intro gx hg w_ hbox hbl; have n0_ := Aside0.mk (blk_below (g := gb) (o := .cells #[.int .i64 d] 3 (0, 0)) BK3.out hbl); have n1_ := Aside0.mk (below_step HB.out hbl); have n2_ := Aside0.mk hbox; clear BK3 HB; have BK3 := n0_; have HB := n1_; have BK2 := n2_; clear n0_ n1_ n2_ hbl hbox hg; have hq_ : w_.cell? ⟨gb, 0, none⟩ = some (.int .i64 d) := (blk_cell BK3.out 0).trans rfl; have hz0_ : w_.cell? ⟨gx, 0, none⟩ = some (.int .i64 a0_0) := (blk_cell BK2.out 0).trans rfl; have hz1_ : w_.cell? ⟨gx, 1, none⟩ = some (.int .i64 a0_1) := (blk_cell BK2.out 1).trans rfl; have hz2_ : w_.cell? ⟨gx, 2, none⟩ = some (.int .i64 a0_2) := (blk_cell BK2.out 2).trans rfl; have hz3_ : w_.cell? ⟨gx, 3, none⟩ = some (.string a0_3) := (blk_cell BK2.out 3).trans rfl; have hz4_ : w_.cell? ⟨gx, 4, none⟩ = some (.slice A0_4 l0_4.length c0_4) := (blk_cell BK2.out 4).trans rfl; have hz5_ : w_.cell? ⟨gx, 5, none⟩ = some (.slice A0_5 l0_5.length c0_5) := (blk_cell BK2.out 5).trans rfl) | (go_at_call 60; (with_reducible refine (OK a0_0 a0_1 a0_2 a0_3 A0_4 c0_4 l0_4 A0_5 c0_5 l0_5 _ r _ (Kd.C_below HR0_4.out HB.out) HC0_4.out (Kd.C_below HR0_5.out HB.out) HC0_5.out (LaidG.below (m := 2) (by decide) HG.out HB.out) HH.out).mono ?_); rintro e w_ ⟨rfl, hbl⟩; have HB2 := at_step HB hbl; clear hbl))
 go_ret
 exact ⟨(by first | rfl | (cases r <;> rfl)), HB2.out⟩

theorem conV.calls (k : Nat) (OK : ∀ k1, k1 + 1 = k → OkV k1) : ConV k := by
 intro A0 c0 l0 d r w gb hr0 hc0 hb hG h
 unfold conV.f at h
 obtain ⟨i, hi, h⟩ := Option.bind_eq_some_iff.mp h
 obtain rfl := Option.some.inj h
 cases k with
 | zero =>
  refine conF.calls_valueOk1 _ gb 0 A0 c0 l0 i w ?_ hr0 hc0 hi
  intro a0_0 a0_1 a0_2 a0_3 A0_4 c0_4 l0_4 A0_5 c0_5 l0_5 r W hB h1 h2 h3 h4 h5
  simp [impl_valueOk.r] at h5
 | succ k =>
  refine conF.calls_valueOk1 _ gb (k + 1) A0 c0 l0 i w ?_ hr0 hc0 hi
  intro a0_0 a0_1 a0_2 a0_3 A0_4 c0_4 l0_4 A0_5 c0_5 l0_5 r W hB h1 h2 h3 h4 h5
  obtain ⟨b, hb1, h5⟩ := Option.bind_eq_some_iff.mp h5
  obtain rfl := Option.some.inj h5
  simp only [impl_valueOk.r] at hb1
  exact notOk.calls k (OK k rfl) gb d a0_0 a0_1 a0_2 a0_3 A0_4 c0_4 l0_4 A0_5 c0_5 l0_5 b W (blk_below hb hB) (LaidG.below (m := 2) (by decide) hG hB) h1 h2 h3 h4 hb1

set_option maxHeartbeats 8000000 in
set_option maxRecDepth 100000 in
theorem impl_valueOk.calls0 (k : Nat) (CON : ∀ k1, k1 < k → ConV k1) : OkV k := by
 intro a0_0 a0_1 a0_2 a0_3 A0_4 c0_4 l0_4 A0_5 c0_5 l0_5 a1 r w hr0_4 hc0_4 hr0_5 hc0_5 hG h
 have hu28 := Tryd.underlying28
 have hu24 := Tryd.underlying24
 have HR0_4 := Aside0.mk hr0_4
 have HC0_4 := Aside0.mk hc0_4
 clear hr0_4 hc0_4
 have HR0_5 := Aside0.mk hr0_5
 have HC0_5 := Aside0.mk hc0_5
 clear hr0_5 hc0_5
 have HGL := Aside0.mk hG
 clear hG
 have HB := Aside0.mk (Below.refl w.heap.size w)
 have H : (if a1 = 0 then (impl_valueOk.j0 k a1 true a0_0 a0_1 a0_2 a0_3 l0_4 l0_5) else (if a0_0 = 3 then (if a0_0 = 4 then (if a0_0 < 5 then (if (l0_4.length : Int) > 0 then (impl_valueOk.j0 k a1 true a0_0 a0_1 a0_2 a0_3 l0_4 l0_5) else (if a0_0 = 6 then (impl_valueOk.j0 k a1 false a0_0 a0_1 a0_2 a0_3 l0_4 l0_5) else (impl_valueOk.j0 k a1 (decide ((l0_5.length : Int) > 0)) a0_0 a0_1 a0_2 a0_3 l0_4 l0_5))) else (if a0_0 = 6 then (impl_valueOk.j0 k a1 false a0_0 a0_1 a0_2 a0_3 l0_4 l0_5) else (impl_valueOk.j0 k a1 (decide ((l0_5.length : Int) > 0)) a0_0 a0_1 a0_2 a0_3 l0_4 l0_5))) else (if a0_3.toList = ([] : List UInt8) then (if a0_0 < 5 then (if (l0_4.length : Int) > 0 then (impl_valueOk.j0 k a1 true a0_0 a0_1 a0_2 a0_3 l0_4 l0_5) else (if a0_0 = 6 then (impl_valueOk.j0 k a1 false a0_0 a0_1 a0_2 a0_3 l0_4 l0_5) else (impl_valueOk.j0 k a1 (decide ((l0_5.length : Int) > 0)) a0_0 a0_1 a0_2 a0_3 l0_4 l0_5))) else (if a0_0 = 6 then (impl_valueOk.j0 k a1 false a0_0 a0_1 a0_2 a0_3 l0_4 l0_5) else (impl_valueOk.j0 k a1 (decide ((l0_5.length : Int) > 0)) a0_0 a0_1 a0_2 a0_3 l0_4 l0_5))) else (impl_valueOk.j0 k a1 true a0_0 a0_1 a0_2 a0_3 l0_4 l0_5))) else (if (!(a0_1 == 0) || (!(a0_2 == 0))) = true then (impl_valueOk.j0 k a1 true a0_0 a0_1 a0_2 a0_3 l0_4 l0_5) else (if a0_0 = 4 then (if a0_0 < 5 then (if (l0_4.length : Int) > 0 then (impl_valueOk.j0 k a1 true a0_0 a0_1 a0_2 a0_3 l0_4 l0_5) else (if a0_0 = 6 then (impl_valueOk.j0 k a1 false a0_0 a0_1 a0_2 a0_3 l0_4 l0_5) else (impl_valueOk.j0 k a1 (decide ((l0_5.length : Int) > 0)) a0_0 a0_1 a0_2 a0_3 l0_4 l0_5))) else (if a0_0 = 6 then (impl_valueOk.j0 k a1 false a0_0 a0_1 a0_2 a0_3 l0_4 l0_5) else (impl_valueOk.j0 k a1 (decide ((l0_5.length : Int) > 0)) a0_0 a0_1 a0_2 a0_3 l0_4 l0_5))) else (if a0_3.toList = ([] : List UInt8) then (if a0_0 < 5 then (if (l0_4.length : Int) > 0 then (impl_valueOk.j0 k a1 true a0_0 a0_1 a0_2 a0_3 l0_4 l0_5) else (if a0_0 = 6 then (impl_valueOk.j0 k a1 false a0_0 a0_1 a0_2 a0_3 l0_4 l0_5) else (impl_valueOk.j0 k a1 (decide ((l0_5.length : Int) > 0)) a0_0 a0_1 a0_2 a0_3 l0_4 l0_5))) else (if a0_0 = 6 then (impl_valueOk.j0 k a1 false a0_0 a0_1 a0_2 a0_3 l0_4 l0_5) else (impl_valueOk.j0 k a1 (decide ((l0_5.length : Int) > 0)) a0_0 a0_1 a0_2 a0_3 l0_4 l0_5))) else (impl_valueOk.j0 k a1 true a0_0 a0_1 a0_2 a0_3 l0_4 l0_5)))))) = some r := h
 clear h
 have HC3 := Aside0.mk H
 clear H
 go_enter Tryd.func60, Tryd.ntmps60
 go_upto_region 1 with (first | ((with_reducible refine gate_dst (N := 2) rfl ?_); (try (refine gate_guard (by rfl) ?_; dsimp only)); refine box_event ?hg (N := 2) ?hd (cs := #[.int .i64 a0_0, .int .i64 a0_1, .int .i64 a0_2, .string a0_3, .slice A0_4 l0_4.length c0_4, .slice A0_5 l0_5.length c0_5]) (t := 28) ?hr ?_; (case hd => rfl); (case hg => rfl); (case hr => exact (by first | (go_simp; done) | (go_simp; rfl))); intro gb316 hg wb_ hbox hb; have n0_ := Aside0.mk (below_step qGVals8_ hb); have n1_ := Aside0.mk (hbox); have n2_ := Aside0.mk ((by rw [hg]; exact (below_size qGVals8_) : w.heap.size ≤ gb316)); have n3_ := Aside0.mk ((by rw [hg]; exact (below_size qGVals8_) : w.heap.size ≤ gb316)); clear HB; have HB := n0_; have BK316 := n1_; have GW316 := n2_; have GE316 := n3_; clear n0_ n1_ n2_ n3_ hb hbox hg) | ((with_reducible refine gate_dst (N := 3) rfl ?_); (try (refine gate_guard (by rfl) ?_; dsimp only)); refine box_event ?hg (N := 3) ?hd (cs := #[.int .i64 a1]) (t := 3) ?hr ?_; (case hd => rfl); (case hg => rfl); (case hr => exact (by first | (go_simp; done) | (go_simp; rfl))); intro gb3 hg w4 hbox hb; have n0_ := Aside0.mk (blk_below (g := gb316) (o := .cells #[.int .i64 a0_0, .int .i64 a0_1, .int .i64 a0_2, .string a0_3, .slice A0_4 l0_4.length c0_4, .slice A0_5 l0_5.length c0_5] 28 (0, 0)) qGVals2_ hb); have n1_ := Aside0.mk (hbox); have n2_ := Aside0.mk (below_step qGVals0_ hb); clear BK316 HB; have BK316 := n0_; have BK3 := n1_; have HB := n2_; clear n0_ n1_ n2_ hb hbox hg))
 have hc3_ : w4.cell? ⟨gb3, 0, none⟩ = some (.int .i64 a1) := (blk_cell BK3.out 0).trans rfl
 have hf3_ := blk_frozen BK3.out 0
 (try simp only [Act.put, List.setIfInBounds_toArray, List.set_cons_zero, List.set_cons_succ])
 go_cut [51] (fun v51 wc => ∃ (kq : Nat) (x51_2 : Bool), v51 = .bool x51_2 ∧ Aside0 (impl_valueOk.j0 kq a1 x51_2 a0_0 a0_1 a0_2 a0_3 l0_4 l0_5 = some r) ∧ Aside0 (kq ≤ k) ∧ Aside0 (wc.heap[gb316]? = some (.cells #[.int .i64 a0_0, .int .i64 a0_1, .int .i64 a0_2, .string a0_3, (.slice A0_4 l0_4.length c0_4), (.slice A0_5 l0_5.length c0_5)] 28 (0, 0))) ∧ Aside0 (wc.heap[gb3]? = some (.cells #[.int .i64 a1] 3 (0, 0))) ∧ Aside0 (Below w.heap.size w wc))
 case first =>
  have H := HC3.out
  clear HC3
  by_cases c5 : a1 = 0
  ·rw [if_pos c5] at H
   have c5b0 : (a1 == 0) = true := beq_iff_eq.mpr c5
   have c5b1 : (a1 != 0) = false := bne_eq_false_iff_eq.mpr c5
   clear c5
   (first | rw [c5b0] | (simp only [i64_w, i32_w]; rw [c5b0]) | skip)
   have H' := Aside0.mk H
   clear H
   go_wp2
   go_meet
   case rel => exact ⟨_, (true), qGVals3_, H', ⟨qGVals5_⟩, ⟨qGVals2_⟩, ⟨qGVals1_⟩, ⟨qGVals0_⟩⟩
  ·rw [if_neg c5] at H
   have c5b0 : (a1 == 0) = false := beq_eq_false_iff_ne.mpr c5
   have c5b1 : (a1 != 0) = true := bne_iff_ne.mpr c5
   (first | rw [c5b0] | (simp only [i64_w, i32_w]; rw [c5b0]) | skip)
   by_cases c6 : a0_0 = 3
   ·rw [if_pos c6] at H
    have c6b0 : (a0_0 == 3) = true := beq_iff_eq.mpr c6
    have c6b1 : (a0_0 != 3) = false := bne_eq_false_iff_eq.mpr c6
    clear c6
    by_cases c7 : a0_0 = 4
    ·rw [if_pos c7] at H
     have c7b0 : (a0_0 == 4) = true := beq_iff_eq.mpr c7
     have c7b1 : (a0_0 != 4) = false := bne_eq_false_iff_eq.mpr c7
     clear c7
     by_cases c8 : a0_0 < 5
     ·rw [if_pos c8] at H
      have c8b0 : decide (a0_0 < 5) = true := decide_eq_true c8
      clear c8
      by_cases c9 : (l0_4.length : Int) > 0
      ·rw [if_pos c9] at H
       have c9b0 : decide (0 < (l0_4.length : Int)) = true := decide_eq_true c9
       have c9b1 : decide (0 < l0_4.length) = true := decide_eq_true (by omega)
       clear c9
       have H' := Aside0.mk H
       clear H
       have hcz10_0 : w4.cell? ⟨gb316, 0, none⟩ = some (.int .i64 a0_0) := (blk_cell BK316.out 0).trans rfl
       have hcz10_1 : w4.cell? ⟨gb316, 1, none⟩ = some (.int .i64 a0_1) := (blk_cell BK316.out 1).trans rfl
       have hcz10_2 : w4.cell? ⟨gb316, 2, none⟩ = some (.int .i64 a0_2) := (blk_cell BK316.out 2).trans rfl
       have hcz10_3 : w4.cell? ⟨gb316, 3, none⟩ = some (.string a0_3) := (blk_cell BK316.out 3).trans rfl
       have hcz10_4 : w4.cell? ⟨gb316, 4, none⟩ = some (.slice A0_4 l0_4.length c0_4) := (blk_cell BK316.out 4).trans rfl
       have hcz10_5 : w4.cell? ⟨gb316, 5, none⟩ = some (.slice A0_5 l0_5.length c0_5) := (blk_cell BK316.out 5).trans rfl
       have hfz10_0 := blk_frozen BK316.out 0
       have hfz10_1 := blk_frozen BK316.out 1
       have hfz10_2 := blk_frozen BK316.out 2
       have hfz10_3 := blk_frozen BK316.out 3
       have hfz10_4 := blk_frozen BK316.out 4
       have hfz10_5 := blk_frozen BK316.out 5
       go_wp2
       go_meet
       case rel => exact ⟨_, (true), qGVals3_, H', ⟨qGVals5_⟩, ⟨qGVals2_⟩, ⟨qGVals1_⟩, ⟨qGVals0_⟩⟩
      ·rw [if_neg c9] at H
       have c9b0 : decide (0 < (l0_4.length : Int)) = false := decide_eq_false c9
       have c9b1 : decide (0 < l0_4.length) = false := decide_eq_false (by omega)
       clear c9
       by_cases c11 : a0_0 = 6
       ·rw [if_pos c11] at H
        have c11b0 : (a0_0 == 6) = true := beq_iff_eq.mpr c11
        have c11b1 : (a0_0 != 6) = false := bne_eq_false_iff_eq.mpr c11
        clear c11
        have H' := Aside0.mk H
        clear H
        have hcz12_0 : w4.cell? ⟨gb316, 0, none⟩ = some (.int .i64 a0_0) := (blk_cell BK316.out 0).trans rfl
        have hcz12_1 : w4.cell? ⟨gb316, 1, none⟩ = some (.int .i64 a0_1) := (blk_cell BK316.out 1).trans rfl
        have hcz12_2 : w4.cell? ⟨gb316, 2, none⟩ = some (.int .i64 a0_2) := (blk_cell BK316.out 2).trans rfl
        have hcz12_3 : w4.cell? ⟨gb316, 3, none⟩ = some (.string a0_3) := (blk_cell BK316.out 3).trans rfl
        have hcz12_4 : w4.cell? ⟨gb316, 4, none⟩ = some (.slice A0_4 l0_4.length c0_4) := (blk_cell BK316.out 4).trans rfl
        have hcz12_5 : w4.cell? ⟨gb316, 5, none⟩ = some (.slice A0_5 l0_5.length c0_5) := (blk_cell BK316.out 5).trans rfl
        have hfz12_0 := blk_frozen BK316.out 0
        have hfz12_1 := blk_frozen BK316.out 1
        have hfz12_2 := blk_frozen BK316.out 2
        have hfz12_3 := blk_frozen BK316.out 3
        have hfz12_4 := blk_frozen BK316.out 4
        have hfz12_5 := blk_frozen BK316.out 5
        go_wp2
        go_meet
        case rel => exact ⟨_, (false), qGVals3_, H', ⟨qGVals5_⟩, ⟨qGVals2_⟩, ⟨qGVals1_⟩, ⟨qGVals0_⟩⟩
       ·rw [if_neg c11] at H
        have c11b0 : (a0_0 == 6) = false := beq_eq_false_iff_ne.mpr c11
        have c11b1 : (a0_0 != 6) = true := bne_iff_ne.mpr c11
        have H' := Aside0.mk H
        clear H
        have hcz13_0 : w4.cell? ⟨gb316, 0, none⟩ = some (.int .i64 a0_0) := (blk_cell BK316.out 0).trans rfl
        have hcz13_1 : w4.cell? ⟨gb316, 1, none⟩ = some (.int .i64 a0_1) := (blk_cell BK316.out 1).trans rfl
        have hcz13_2 : w4.cell? ⟨gb316, 2, none⟩ = some (.int .i64 a0_2) := (blk_cell BK316.out 2).trans rfl
        have hcz13_3 : w4.cell? ⟨gb316, 3, none⟩ = some (.string a0_3) := (blk_cell BK316.out 3).trans rfl
        have hcz13_4 : w4.cell? ⟨gb316, 4, none⟩ = some (.slice A0_4 l0_4.length c0_4) := (blk_cell BK316.out 4).trans rfl
        have hcz13_5 : w4.cell? ⟨gb316, 5, none⟩ = some (.slice A0_5 l0_5.length c0_5) := (blk_cell BK316.out 5).trans rfl
        have hfz13_0 := blk_frozen BK316.out 0
        have hfz13_1 := blk_frozen BK316.out 1
        have hfz13_2 := blk_frozen BK316.out 2
        have hfz13_3 := blk_frozen BK316.out 3
        have hfz13_4 := blk_frozen BK316.out 4
        have hfz13_5 := blk_frozen BK316.out 5
        go_wp2
        go_meet
        case rel => exact ⟨_, (decide ((l0_5.length : Int) > 0)), qGVals3_, H', ⟨qGVals5_⟩, ⟨qGVals2_⟩, ⟨qGVals1_⟩, ⟨qGVals0_⟩⟩
     ·rw [if_neg c8] at H
      have c8b0 : decide (a0_0 < 5) = false := decide_eq_false c8
      clear c8
      by_cases c14 : a0_0 = 6
      ·rw [if_pos c14] at H
       have c14b0 : (a0_0 == 6) = true := beq_iff_eq.mpr c14
       have c14b1 : (a0_0 != 6) = false := bne_eq_false_iff_eq.mpr c14
       clear c14
       have H' := Aside0.mk H
       clear H
       have hcz15_0 : w4.cell? ⟨gb316, 0, none⟩ = some (.int .i64 a0_0) := (blk_cell BK316.out 0).trans rfl
       have hcz15_1 : w4.cell? ⟨gb316, 1, none⟩ = some (.int .i64 a0_1) := (blk_cell BK316.out 1).trans rfl
       have hcz15_2 : w4.cell? ⟨gb316, 2, none⟩ = some (.int .i64 a0_2) := (blk_cell BK316.out 2).trans rfl
       have hcz15_3 : w4.cell? ⟨gb316, 3, none⟩ = some (.string a0_3) := (blk_cell BK316.out 3).trans rfl
       have hcz15_4 : w4.cell? ⟨gb316, 4, none⟩ = some (.slice A0_4 l0_4.length c0_4) := (blk_cell BK316.out 4).trans rfl
       have hcz15_5 : w4.cell? ⟨gb316, 5, none⟩ = some (.slice A0_5 l0_5.length c0_5) := (blk_cell BK316.out 5).trans rfl
       have hfz15_0 := blk_frozen BK316.out 0
       have hfz15_1 := blk_frozen BK316.out 1
       have hfz15_2 := blk_frozen BK316.out 2
       have hfz15_3 := blk_frozen BK316.out 3
       have hfz15_4 := blk_frozen BK316.out 4
       have hfz15_5 := blk_frozen BK316.out 5
       go_wp2
       go_meet
       case rel => exact ⟨_, (false), qGVals3_, H', ⟨qGVals5_⟩, ⟨qGVals2_⟩, ⟨qGVals1_⟩, ⟨qGVals0_⟩⟩
      ·rw [if_neg c14] at H
       have c14b0 : (a0_0 == 6) = false := beq_eq_false_iff_ne.mpr c14
       have c14b1 : (a0_0 != 6) = true := bne_iff_ne.mpr c14
       have H' := Aside0.mk H
       clear H
       have hcz16_0 : w4.cell? ⟨gb316, 0, none⟩ = some (.int .i64 a0_0) := (blk_cell BK316.out 0).trans rfl
       have hcz16_1 : w4.cell? ⟨gb316, 1, none⟩ = some (.int .i64 a0_1) := (blk_cell BK316.out 1).trans rfl
       have hcz16_2 : w4.cell? ⟨gb316, 2, none⟩ = some (.int .i64 a0_2) := (blk_cell BK316.out 2).trans rfl
       have hcz16_3 : w4.cell? ⟨gb316, 3, none⟩ = some (.string a0_3) := (blk_cell BK316.out 3).trans rfl
       have hcz16_4 : w4.cell? ⟨gb316, 4, none⟩ = some (.slice A0_4 l0_4.length c0_4) := (blk_cell BK316.out 4).trans rfl
       have hcz16_5 : w4.cell? ⟨gb316, 5, none⟩ = some (.slice A0_5 l0_5.length c0_5) := (blk_cell BK316.out 5).trans rfl
       have hfz16_0 := blk_frozen BK316.out 0
       have hfz16_1 := blk_frozen BK316.out 1
       have hfz16_2 := blk_frozen BK316.out 2
       have hfz16_3 := blk_frozen BK316.out 3
       have hfz16_4 := blk_frozen BK316.out 4
       have hfz16_5 := blk_frozen BK316.out 5
       go_wp2
       go_meet
       case rel => exact ⟨_, (decide ((l0_5.length : Int) > 0)), qGVals3_, H', ⟨qGVals5_⟩, ⟨qGVals2_⟩, ⟨qGVals1_⟩, ⟨qGVals0_⟩⟩
    ·rw [if_neg c7] at H
     have c7b0 : (a0_0 == 4) = false := beq_eq_false_iff_ne.mpr c7
     have c7b1 : (a0_0 != 4) = true := bne_iff_ne.mpr c7
     by_cases c17 : a0_3.toList = ([] : List UInt8)
     ·rw [if_pos c17] at H
      have c17b0 : (a0_3.toList == ([] : List UInt8)) = true := beq_iff_eq.mpr c17
      have c17b1 : (a0_3.toList != ([] : List UInt8)) = false := bne_eq_false_iff_eq.mpr c17
      have c17e : (!(a0_3.toList).isEmpty) = false := by rw [c17]; rfl
      have c17g := c17
      clear c17
      by_cases c18 : a0_0 < 5
      ·rw [if_pos c18] at H
       have c18b0 : decide (a0_0 < 5) = true := decide_eq_true c18
       clear c18
       by_cases c19 : (l0_4.length : Int) > 0
       ·rw [if_pos c19] at H
        have c19b0 : decide (0 < (l0_4.length : Int)) = true := decide_eq_true c19
        have c19b1 : decide (0 < l0_4.length) = true := decide_eq_true (by omega)
        clear c19
        have H' := Aside0.mk H
        clear H
        have hcz20_0 : w4.cell? ⟨gb316, 0, none⟩ = some (.int .i64 a0_0) := (blk_cell BK316.out 0).trans rfl
        have hcz20_1 : w4.cell? ⟨gb316, 1, none⟩ = some (.int .i64 a0_1) := (blk_cell BK316.out 1).trans rfl
        have hcz20_2 : w4.cell? ⟨gb316, 2, none⟩ = some (.int .i64 a0_2) := (blk_cell BK316.out 2).trans rfl
        have hcz20_3 : w4.cell? ⟨gb316, 3, none⟩ = some (.string a0_3) := (blk_cell BK316.out 3).trans rfl
        have hcz20_4 : w4.cell? ⟨gb316, 4, none⟩ = some (.slice A0_4 l0_4.length c0_4) := (blk_cell BK316.out 4).trans rfl
        have hcz20_5 : w4.cell? ⟨gb316, 5, none⟩ = some (.slice A0_5 l0_5.length c0_5) := (blk_cell BK316.out 5).trans rfl
        have hfz20_0 := blk_frozen BK316.out 0
        have hfz20_1 := blk_frozen BK316.out 1
        have hfz20_2 := blk_frozen BK316.out 2
        have hfz20_3 := blk_frozen BK316.out 3
        have hfz20_4 := blk_frozen BK316.out 4
        have hfz20_5 := blk_frozen BK316.out 5
        go_wp2
        go_meet
        case rel => exact ⟨_, (true), qGVals3_, H', ⟨qGVals5_⟩, ⟨qGVals2_⟩, ⟨qGVals1_⟩, ⟨qGVals0_⟩⟩
       ·rw [if_neg c19] at H
        have c19b0 : decide (0 < (l0_4.length : Int)) = false := decide_eq_false c19
        have c19b1 : decide (0 < l0_4.length) = false := decide_eq_false (by omega)
        clear c19
        by_cases c21 : a0_0 = 6
        ·rw [if_pos c21] at H
         have c21b0 : (a0_0 == 6) = true := beq_iff_eq.mpr c21
         have c21b1 : (a0_0 != 6) = false := bne_eq_false_iff_eq.mpr c21
         clear c21
         have H' := Aside0.mk H
         clear H
         have hcz22_0 : w4.cell? ⟨gb316, 0, none⟩ = some (.int .i64 a0_0) := (blk_cell BK316.out 0).trans rfl
         have hcz22_1 : w4.cell? ⟨gb316, 1, none⟩ = some (.int .i64 a0_1) := (blk_cell BK316.out 1).trans rfl
         have hcz22_2 : w4.cell? ⟨gb316, 2, none⟩ = some (.int .i64 a0_2) := (blk_cell BK316.out 2).trans rfl
         have hcz22_3 : w4.cell? ⟨gb316, 3, none⟩ = some (.string a0_3) := (blk_cell BK316.out 3).trans rfl
         have hcz22_4 : w4.cell? ⟨gb316, 4, none⟩ = some (.slice A0_4 l0_4.length c0_4) := (blk_cell BK316.out 4).trans rfl
         have hcz22_5 : w4.cell? ⟨gb316, 5, none⟩ = some (.slice A0_5 l0_5.length c0_5) := (blk_cell BK316.out 5).trans rfl
         have hfz22_0 := blk_frozen BK316.out 0
         have hfz22_1 := blk_frozen BK316.out 1
         have hfz22_2 := blk_frozen BK316.out 2
         have hfz22_3 := blk_frozen BK316.out 3
         have hfz22_4 := blk_frozen BK316.out 4
         have hfz22_5 := blk_frozen BK316.out 5
         go_wp2
         go_meet
         case rel => exact ⟨_, (false), qGVals3_, H', ⟨qGVals5_⟩, ⟨qGVals2_⟩, ⟨qGVals1_⟩, ⟨qGVals0_⟩⟩
        ·rw [if_neg c21] at H
         have c21b0 : (a0_0 == 6) = false := beq_eq_false_iff_ne.mpr c21
         have c21b1 : (a0_0 != 6) = true := bne_iff_ne.mpr c21
         have H' := Aside0.mk H
         clear H
         have hcz23_0 : w4.cell? ⟨gb316, 0, none⟩ = some (.int .i64 a0_0) := (blk_cell BK316.out 0).trans rfl
         have hcz23_1 : w4.cell? ⟨gb316, 1, none⟩ = some (.int .i64 a0_1) := (blk_cell BK316.out 1).trans rfl
         have hcz23_2 : w4.cell? ⟨gb316, 2, none⟩ = some (.int .i64 a0_2) := (blk_cell BK316.out 2).trans rfl
         have hcz23_3 : w4.cell? ⟨gb316, 3, none⟩ = some (.string a0_3) := (blk_cell BK316.out 3).trans rfl
         have hcz23_4 : w4.cell? ⟨gb316, 4, none⟩ = some (.slice A0_4 l0_4.length c0_4) := (blk_cell BK316.out 4).trans rfl
         have hcz23_5 : w4.cell? ⟨gb316, 5, none⟩ = some (.slice A0_5 l0_5.length c0_5) := (blk_cell BK316.out 5).trans rfl
         have hfz23_0 := blk_frozen BK316.out 0
         have hfz23_1 := blk_frozen BK316.out 1
         have hfz23_2 := blk_frozen BK316.out 2
         have hfz23_3 := blk_frozen BK316.out 3
         have hfz23_4 := blk_frozen BK316.out 4
         have hfz23_5 := blk_frozen BK316.out 5
         go_wp2
         go_meet
         case rel => exact ⟨_, (decide ((l0_5.length : Int) > 0)), qGVals3_, H', ⟨qGVals5_⟩, ⟨qGVals2_⟩, ⟨qGVals1_⟩, ⟨qGVals0_⟩⟩
      ·rw [if_neg c18] at H
       have c18b0 : decide (a0_0 < 5) = false := decide_eq_false c18
       clear c18
       by_cases c24 : a0_0 = 6
       ·rw [if_pos c24] at H
        have c24b0 : (a0_0 == 6) = true := beq_iff_eq.mpr c24
        have c24b1 : (a0_0 != 6) = false := bne_eq_false_iff_eq.mpr c24
        clear c24
        have H' := Aside0.mk H
        clear H
        have hcz25_0 : w4.cell? ⟨gb316, 0, none⟩ = some (.int .i64 a0_0) := (blk_cell BK316.out 0).trans rfl
        have hcz25_1 : w4.cell? ⟨gb316, 1, none⟩ = some (.int .i64 a0_1) := (blk_cell BK316.out 1).trans rfl
        have hcz25_2 : w4.cell? ⟨gb316, 2, none⟩ = some (.int .i64 a0_2) := (blk_cell BK316.out 2).trans rfl
        have hcz25_3 : w4.cell? ⟨gb316, 3, none⟩ = some (.string a0_3) := (blk_cell BK316.out 3).trans rfl
        have hcz25_4 : w4.cell? ⟨gb316, 4, none⟩ = some (.slice A0_4 l0_4.length c0_4) := (blk_cell BK316.out 4).trans rfl
        have hcz25_5 : w4.cell? ⟨gb316, 5, none⟩ = some (.slice A0_5 l0_5.length c0_5) := (blk_cell BK316.out 5).trans rfl
        have hfz25_0 := blk_frozen BK316.out 0
        have hfz25_1 := blk_frozen BK316.out 1
        have hfz25_2 := blk_frozen BK316.out 2
        have hfz25_3 := blk_frozen BK316.out 3
        have hfz25_4 := blk_frozen BK316.out 4
        have hfz25_5 := blk_frozen BK316.out 5
        go_wp2
        go_meet
        case rel => exact ⟨_, (false), qGVals3_, H', ⟨qGVals5_⟩, ⟨qGVals2_⟩, ⟨qGVals1_⟩, ⟨qGVals0_⟩⟩
       ·rw [if_neg c24] at H
        have c24b0 : (a0_0 == 6) = false := beq_eq_false_iff_ne.mpr c24
        have c24b1 : (a0_0 != 6) = true := bne_iff_ne.mpr c24
        have H' := Aside0.mk H
        clear H
        have hcz26_0 : w4.cell? ⟨gb316, 0, none⟩ = some (.int .i64 a0_0) := (blk_cell BK316.out 0).trans rfl
        have hcz26_1 : w4.cell? ⟨gb316, 1, none⟩ = some (.int .i64 a0_1) := (blk_cell BK316.out 1).trans rfl
        have hcz26_2 : w4.cell? ⟨gb316, 2, none⟩ = some (.int .i64 a0_2) := (blk_cell BK316.out 2).trans rfl
        have hcz26_3 : w4.cell? ⟨gb316, 3, none⟩ = some (.string a0_3) := (blk_cell BK316.out 3).trans rfl
        have hcz26_4 : w4.cell? ⟨gb316, 4, none⟩ = some (.slice A0_4 l0_4.length c0_4) := (blk_cell BK316.out 4).trans rfl
        have hcz26_5 : w4.cell? ⟨gb316, 5, none⟩ = some (.slice A0_5 l0_5.length c0_5) := (blk_cell BK316.out 5).trans rfl
        have hfz26_0 := blk_frozen BK316.out 0
        have hfz26_1 := blk_frozen BK316.out 1
        have hfz26_2 := blk_frozen BK316.out 2
        have hfz26_3 := blk_frozen BK316.out 3
        have hfz26_4 := blk_frozen BK316.out 4
        have hfz26_5 := blk_frozen BK316.out 5
        go_wp2
        go_meet
        case rel => exact ⟨_, (decide ((l0_5.length : Int) > 0)), qGVals3_, H', ⟨qGVals5_⟩, ⟨qGVals2_⟩, ⟨qGVals1_⟩, ⟨qGVals0_⟩⟩
     ·rw [if_neg c17] at H
      have c17b0 : (a0_3.toList == ([] : List UInt8)) = false := beq_eq_false_iff_ne.mpr c17
      have c17b1 : (a0_3.toList != ([] : List UInt8)) = true := bne_iff_ne.mpr c17
      have c17e : (!(a0_3.toList).isEmpty) = true := by rw [List.isEmpty_eq_false_iff.mpr c17]; rfl
      have c17g := c17
      have H' := Aside0.mk H
      clear H
      have hcz27_0 : w4.cell? ⟨gb316, 0, none⟩ = some (.int .i64 a0_0) := (blk_cell BK316.out 0).trans rfl
      have hcz27_1 : w4.cell? ⟨gb316, 1, none⟩ = some (.int .i64 a0_1) := (blk_cell BK316.out 1).trans rfl
      have hcz27_2 : w4.cell? ⟨gb316, 2, none⟩ = some (.int .i64 a0_2) := (blk_cell BK316.out 2).trans rfl
      have hcz27_3 : w4.cell? ⟨gb316, 3, none⟩ = some (.string a0_3) := (blk_cell BK316.out 3).trans rfl
      have hcz27_4 : w4.cell? ⟨gb316, 4, none⟩ = some (.slice A0_4 l0_4.length c0_4) := (blk_cell BK316.out 4).trans rfl
      have hcz27_5 : w4.cell? ⟨gb316, 5, none⟩ = some (.slice A0_5 l0_5.length c0_5) := (blk_cell BK316.out 5).trans rfl
      have hfz27_0 := blk_frozen BK316.out 0
      have hfz27_1 := blk_frozen BK316.out 1
      have hfz27_2 := blk_frozen BK316.out 2
      have hfz27_3 := blk_frozen BK316.out 3
      have hfz27_4 := blk_frozen BK316.out 4
      have hfz27_5 := blk_frozen BK316.out 5
      go_wp2
      go_meet
      case rel => exact ⟨_, (true), qGVals3_, H', ⟨qGVals5_⟩, ⟨qGVals2_⟩, ⟨qGVals1_⟩, ⟨qGVals0_⟩⟩
   ·rw [if_neg c6] at H
    have c6b0 : (a0_0 == 3) = false := beq_eq_false_iff_ne.mpr c6
    have c6b1 : (a0_0 != 3) = true := bne_iff_ne.mpr c6
    by_cases c28 : (!(a0_1 == 0) || (!(a0_2 == 0))) = true
    ·rw [if_pos c28] at H
     have c28b0 : (!(a0_1 == 0) || (!(a0_2 == 0))) = true := c28
     clear c28
     have H' := Aside0.mk H
     clear H
     have hcz29_0 : w4.cell? ⟨gb316, 0, none⟩ = some (.int .i64 a0_0) := (blk_cell BK316.out 0).trans rfl
     have hcz29_1 : w4.cell? ⟨gb316, 1, none⟩ = some (.int .i64 a0_1) := (blk_cell BK316.out 1).trans rfl
     have hcz29_2 : w4.cell? ⟨gb316, 2, none⟩ = some (.int .i64 a0_2) := (blk_cell BK316.out 2).trans rfl
     have hcz29_3 : w4.cell? ⟨gb316, 3, none⟩ = some (.string a0_3) := (blk_cell BK316.out 3).trans rfl
     have hcz29_4 : w4.cell? ⟨gb316, 4, none⟩ = some (.slice A0_4 l0_4.length c0_4) := (blk_cell BK316.out 4).trans rfl
     have hcz29_5 : w4.cell? ⟨gb316, 5, none⟩ = some (.slice A0_5 l0_5.length c0_5) := (blk_cell BK316.out 5).trans rfl
     have hfz29_0 := blk_frozen BK316.out 0
     have hfz29_1 := blk_frozen BK316.out 1
     have hfz29_2 := blk_frozen BK316.out 2
     have hfz29_3 := blk_frozen BK316.out 3
     have hfz29_4 := blk_frozen BK316.out 4
     have hfz29_5 := blk_frozen BK316.out 5
     go_wp2
     go_meet
     case rel => exact ⟨_, (true), qGVals3_, H', ⟨qGVals5_⟩, ⟨qGVals2_⟩, ⟨qGVals1_⟩, ⟨qGVals0_⟩⟩
    ·rw [if_neg c28] at H
     have c28b0 : (!(a0_1 == 0) || (!(a0_2 == 0))) = false := by simpa using c28
     clear c28
     by_cases c30 : a0_0 = 4
     ·rw [if_pos c30] at H
      have c30b0 : (a0_0 == 4) = true := beq_iff_eq.mpr c30
      have c30b1 : (a0_0 != 4) = false := bne_eq_false_iff_eq.mpr c30
      clear c30
      by_cases c31 : a0_0 < 5
      ·rw [if_pos c31] at H
       have c31b0 : decide (a0_0 < 5) = true := decide_eq_true c31
       clear c31
       by_cases c32 : (l0_4.length : Int) > 0
       ·rw [if_pos c32] at H
        have c32b0 : decide (0 < (l0_4.length : Int)) = true := decide_eq_true c32
        have c32b1 : decide (0 < l0_4.length) = true := decide_eq_true (by omega)
        clear c32
        have H' := Aside0.mk H
        clear H
        have hcz33_0 : w4.cell? ⟨gb316, 0, none⟩ = some (.int .i64 a0_0) := (blk_cell BK316.out 0).trans rfl
        have hcz33_1 : w4.cell? ⟨gb316, 1, none⟩ = some (.int .i64 a0_1) := (blk_cell BK316.out 1).trans rfl
        have hcz33_2 : w4.cell? ⟨gb316, 2, none⟩ = some (.int .i64 a0_2) := (blk_cell BK316.out 2).trans rfl
        have hcz33_3 : w4.cell? ⟨gb316, 3, none⟩ = some (.string a0_3) := (blk_cell BK316.out 3).trans rfl
        have hcz33_4 : w4.cell? ⟨gb316, 4, none⟩ = some (.slice A0_4 l0_4.length c0_4) := (blk_cell BK316.out 4).trans rfl
        have hcz33_5 : w4.cell? ⟨gb316, 5, none⟩ = some (.slice A0_5 l0_5.length c0_5) := (blk_cell BK316.out 5).trans rfl
        have hfz33_0 := blk_frozen BK316.out 0
        have hfz33_1 := blk_frozen BK316.out 1
        have hfz33_2 := blk_frozen BK316.out 2
        have hfz33_3 := blk_frozen BK316.out 3
        have hfz33_4 := blk_frozen BK316.out 4
        have hfz33_5 := blk_frozen BK316.out 5
        go_wp2
        go_meet
        case rel => exact ⟨_, (true), qGVals3_, H', ⟨qGVals5_⟩, ⟨qGVals2_⟩, ⟨qGVals1_⟩, ⟨qGVals0_⟩⟩
       ·rw [if_neg c32] at H
        have c32b0 : decide (0 < (l0_4.length : Int)) = false := decide_eq_false c32
        have c32b1 : decide (0 < l0_4.length) = false := decide_eq_false (by omega)
        clear c32
        by_cases c34 : a0_0 = 6
        ·rw [if_pos c34] at H
         have c34b0 : (a0_0 == 6) = true := beq_iff_eq.mpr c34
         have c34b1 : (a0_0 != 6) = false := bne_eq_false_iff_eq.mpr c34
         clear c34
         have H' := Aside0.mk H
         clear H
         have hcz35_0 : w4.cell? ⟨gb316, 0, none⟩ = some (.int .i64 a0_0) := (blk_cell BK316.out 0).trans rfl
         have hcz35_1 : w4.cell? ⟨gb316, 1, none⟩ = some (.int .i64 a0_1) := (blk_cell BK316.out 1).trans rfl
         have hcz35_2 : w4.cell? ⟨gb316, 2, none⟩ = some (.int .i64 a0_2) := (blk_cell BK316.out 2).trans rfl
         have hcz35_3 : w4.cell? ⟨gb316, 3, none⟩ = some (.string a0_3) := (blk_cell BK316.out 3).trans rfl
         have hcz35_4 : w4.cell? ⟨gb316, 4, none⟩ = some (.slice A0_4 l0_4.length c0_4) := (blk_cell BK316.out 4).trans rfl
         have hcz35_5 : w4.cell? ⟨gb316, 5, none⟩ = some (.slice A0_5 l0_5.length c0_5) := (blk_cell BK316.out 5).trans rfl
         have hfz35_0 := blk_frozen BK316.out 0
         have hfz35_1 := blk_frozen BK316.out 1
         have hfz35_2 := blk_frozen BK316.out 2
         have hfz35_3 := blk_frozen BK316.out 3
         have hfz35_4 := blk_frozen BK316.out 4
         have hfz35_5 := blk_frozen BK316.out 5
         go_wp2
         go_meet
         case rel => exact ⟨_, (false), qGVals3_, H', ⟨qGVals5_⟩, ⟨qGVals2_⟩, ⟨qGVals1_⟩, ⟨qGVals0_⟩⟩
        ·rw [if_neg c34] at H
         have c34b0 : (a0_0 == 6) = false := beq_eq_false_iff_ne.mpr c34
         have c34b1 : (a0_0 != 6) = true := bne_iff_ne.mpr c34
         have H' := Aside0.mk H
         clear H
         have hcz36_0 : w4.cell? ⟨gb316, 0, none⟩ = some (.int .i64 a0_0) := (blk_cell BK316.out 0).trans rfl
         have hcz36_1 : w4.cell? ⟨gb316, 1, none⟩ = some (.int .i64 a0_1) := (blk_cell BK316.out 1).trans rfl
         have hcz36_2 : w4.cell? ⟨gb316, 2, none⟩ = some (.int .i64 a0_2) := (blk_cell BK316.out 2).trans rfl
         have hcz36_3 : w4.cell? ⟨gb316, 3, none⟩ = some (.string a0_3) := (blk_cell BK316.out 3).trans rfl
         have hcz36_4 : w4.cell? ⟨gb316, 4, none⟩ = some (.slice A0_4 l0_4.length c0_4) := (blk_cell BK316.out 4).trans rfl
         have hcz36_5 : w4.cell? ⟨gb316, 5, none⟩ = some (.slice A0_5 l0_5.length c0_5) := (blk_cell BK316.out 5).trans rfl
         have hfz36_0 := blk_frozen BK316.out 0
         have hfz36_1 := blk_frozen BK316.out 1
         have hfz36_2 := blk_frozen BK316.out 2
         have hfz36_3 := blk_frozen BK316.out 3
         have hfz36_4 := blk_frozen BK316.out 4
         have hfz36_5 := blk_frozen BK316.out 5
         go_wp2
         go_meet
         case rel => exact ⟨_, (decide ((l0_5.length : Int) > 0)), qGVals3_, H', ⟨qGVals5_⟩, ⟨qGVals2_⟩, ⟨qGVals1_⟩, ⟨qGVals0_⟩⟩
      ·rw [if_neg c31] at H
       have c31b0 : decide (a0_0 < 5) = false := decide_eq_false c31
       clear c31
       by_cases c37 : a0_0 = 6
       ·rw [if_pos c37] at H
        have c37b0 : (a0_0 == 6) = true := beq_iff_eq.mpr c37
        have c37b1 : (a0_0 != 6) = false := bne_eq_false_iff_eq.mpr c37
        clear c37
        have H' := Aside0.mk H
        clear H
        have hcz38_0 : w4.cell? ⟨gb316, 0, none⟩ = some (.int .i64 a0_0) := (blk_cell BK316.out 0).trans rfl
        have hcz38_1 : w4.cell? ⟨gb316, 1, none⟩ = some (.int .i64 a0_1) := (blk_cell BK316.out 1).trans rfl
        have hcz38_2 : w4.cell? ⟨gb316, 2, none⟩ = some (.int .i64 a0_2) := (blk_cell BK316.out 2).trans rfl
        have hcz38_3 : w4.cell? ⟨gb316, 3, none⟩ = some (.string a0_3) := (blk_cell BK316.out 3).trans rfl
        have hcz38_4 : w4.cell? ⟨gb316, 4, none⟩ = some (.slice A0_4 l0_4.length c0_4) := (blk_cell BK316.out 4).trans rfl
        have hcz38_5 : w4.cell? ⟨gb316, 5, none⟩ = some (.slice A0_5 l0_5.length c0_5) := (blk_cell BK316.out 5).trans rfl
        have hfz38_0 := blk_frozen BK316.out 0
        have hfz38_1 := blk_frozen BK316.out 1
        have hfz38_2 := blk_frozen BK316.out 2
        have hfz38_3 := blk_frozen BK316.out 3
        have hfz38_4 := blk_frozen BK316.out 4
        have hfz38_5 := blk_frozen BK316.out 5
        go_wp2
        go_meet
        case rel => exact ⟨_, (false), qGVals3_, H', ⟨qGVals5_⟩, ⟨qGVals2_⟩, ⟨qGVals1_⟩, ⟨qGVals0_⟩⟩
       ·rw [if_neg c37] at H
        have c37b0 : (a0_0 == 6) = false := beq_eq_false_iff_ne.mpr c37
        have c37b1 : (a0_0 != 6) = true := bne_iff_ne.mpr c37
        have H' := Aside0.mk H
        clear H
        have hcz39_0 : w4.cell? ⟨gb316, 0, none⟩ = some (.int .i64 a0_0) := (blk_cell BK316.out 0).trans rfl
        have hcz39_1 : w4.cell? ⟨gb316, 1, none⟩ = some (.int .i64 a0_1) := (blk_cell BK316.out 1).trans rfl
        have hcz39_2 : w4.cell? ⟨gb316, 2, none⟩ = some (.int .i64 a0_2) := (blk_cell BK316.out 2).trans rfl
        have hcz39_3 : w4.cell? ⟨gb316, 3, none⟩ = some (.string a0_3) := (blk_cell BK316.out 3).trans rfl
        have hcz39_4 : w4.cell? ⟨gb316, 4, none⟩ = some (.slice A0_4 l0_4.length c0_4) := (blk_cell BK316.out 4).trans rfl
        have hcz39_5 : w4.cell? ⟨gb316, 5, none⟩ = some (.slice A0_5 l0_5.length c0_5) := (blk_cell BK316.out 5).trans rfl
        have hfz39_0 := blk_frozen BK316.out 0
        have hfz39_1 := blk_frozen BK316.out 1
        have hfz39_2 := blk_frozen BK316.out 2
        have hfz39_3 := blk_frozen BK316.out 3
        have hfz39_4 := blk_frozen BK316.out 4
        have hfz39_5 := blk_frozen BK316.out 5
        go_wp2
        go_meet
        case rel => exact ⟨_, (decide ((l0_5.length : Int) > 0)), qGVals3_, H', ⟨qGVals5_⟩, ⟨qGVals2_⟩, ⟨qGVals1_⟩, ⟨qGVals0_⟩⟩
     ·rw [if_neg c30] at H
      have c30b0 : (a0_0 == 4) = false := beq_eq_false_iff_ne.mpr c30
      have c30b1 : (a0_0 != 4) = true := bne_iff_ne.mpr c30
      by_cases c40 : a0_3.toList = ([] : List UInt8)
      ·rw [if_pos c40] at H
       have c40b0 : (a0_3.toList == ([] : List UInt8)) = true := beq_iff_eq.mpr c40
       have c40b1 : (a0_3.toList != ([] : List UInt8)) = false := bne_eq_false_iff_eq.mpr c40
       have c40e : (!(a0_3.toList).isEmpty) = false := by rw [c40]; rfl
       have c40g := c40
       clear c40
       by_cases c41 : a0_0 < 5
       ·rw [if_pos c41] at H
        have c41b0 : decide (a0_0 < 5) = true := decide_eq_true c41
        clear c41
        by_cases c42 : (l0_4.length : Int) > 0
        ·rw [if_pos c42] at H
         have c42b0 : decide (0 < (l0_4.length : Int)) = true := decide_eq_true c42
         have c42b1 : decide (0 < l0_4.length) = true := decide_eq_true (by omega)
         clear c42
         have H' := Aside0.mk H
         clear H
         have hcz43_0 : w4.cell? ⟨gb316, 0, none⟩ = some (.int .i64 a0_0) := (blk_cell BK316.out 0).trans rfl
         have hcz43_1 : w4.cell? ⟨gb316, 1, none⟩ = some (.int .i64 a0_1) := (blk_cell BK316.out 1).trans rfl
         have hcz43_2 : w4.cell? ⟨gb316, 2, none⟩ = some (.int .i64 a0_2) := (blk_cell BK316.out 2).trans rfl
         have hcz43_3 : w4.cell? ⟨gb316, 3, none⟩ = some (.string a0_3) := (blk_cell BK316.out 3).trans rfl
         have hcz43_4 : w4.cell? ⟨gb316, 4, none⟩ = some (.slice A0_4 l0_4.length c0_4) := (blk_cell BK316.out 4).trans rfl
         have hcz43_5 : w4.cell? ⟨gb316, 5, none⟩ = some (.slice A0_5 l0_5.length c0_5) := (blk_cell BK316.out 5).trans rfl
         have hfz43_0 := blk_frozen BK316.out 0
         have hfz43_1 := blk_frozen BK316.out 1
         have hfz43_2 := blk_frozen BK316.out 2
         have hfz43_3 := blk_frozen BK316.out 3
         have hfz43_4 := blk_frozen BK316.out 4
         have hfz43_5 := blk_frozen BK316.out 5
         go_wp2
         go_meet
         case rel => exact ⟨_, (true), qGVals3_, H', ⟨qGVals5_⟩, ⟨qGVals2_⟩, ⟨qGVals1_⟩, ⟨qGVals0_⟩⟩
        ·rw [if_neg c42] at H
         have c42b0 : decide (0 < (l0_4.length : Int)) = false := decide_eq_false c42
         have c42b1 : decide (0 < l0_4.length) = false := decide_eq_false (by omega)
         clear c42
         by_cases c44 : a0_0 = 6
         ·rw [if_pos c44] at H
          have c44b0 : (a0_0 == 6) = true := beq_iff_eq.mpr c44
          have c44b1 : (a0_0 != 6) = false := bne_eq_false_iff_eq.mpr c44
          clear c44
          have H' := Aside0.mk H
          clear H
          have hcz45_0 : w4.cell? ⟨gb316, 0, none⟩ = some (.int .i64 a0_0) := (blk_cell BK316.out 0).trans rfl
          have hcz45_1 : w4.cell? ⟨gb316, 1, none⟩ = some (.int .i64 a0_1) := (blk_cell BK316.out 1).trans rfl
          have hcz45_2 : w4.cell? ⟨gb316, 2, none⟩ = some (.int .i64 a0_2) := (blk_cell BK316.out 2).trans rfl
          have hcz45_3 : w4.cell? ⟨gb316, 3, none⟩ = some (.string a0_3) := (blk_cell BK316.out 3).trans rfl
          have hcz45_4 : w4.cell? ⟨gb316, 4, none⟩ = some (.slice A0_4 l0_4.length c0_4) := (blk_cell BK316.out 4).trans rfl
          have hcz45_5 : w4.cell? ⟨gb316, 5, none⟩ = some (.slice A0_5 l0_5.length c0_5) := (blk_cell BK316.out 5).trans rfl
          have hfz45_0 := blk_frozen BK316.out 0
          have hfz45_1 := blk_frozen BK316.out 1
          have hfz45_2 := blk_frozen BK316.out 2
          have hfz45_3 := blk_frozen BK316.out 3
          have hfz45_4 := blk_frozen BK316.out 4
          have hfz45_5 := blk_frozen BK316.out 5
          go_wp2
          go_meet
          case rel => exact ⟨_, (false), qGVals3_, H', ⟨qGVals5_⟩, ⟨qGVals2_⟩, ⟨qGVals1_⟩, ⟨qGVals0_⟩⟩
         ·rw [if_neg c44] at H
          have c44b0 : (a0_0 == 6) = false := beq_eq_false_iff_ne.mpr c44
          have c44b1 : (a0_0 != 6) = true := bne_iff_ne.mpr c44
          have H' := Aside0.mk H
          clear H
          have hcz46_0 : w4.cell? ⟨gb316, 0, none⟩ = some (.int .i64 a0_0) := (blk_cell BK316.out 0).trans rfl
          have hcz46_1 : w4.cell? ⟨gb316, 1, none⟩ = some (.int .i64 a0_1) := (blk_cell BK316.out 1).trans rfl
          have hcz46_2 : w4.cell? ⟨gb316, 2, none⟩ = some (.int .i64 a0_2) := (blk_cell BK316.out 2).trans rfl
          have hcz46_3 : w4.cell? ⟨gb316, 3, none⟩ = some (.string a0_3) := (blk_cell BK316.out 3).trans rfl
          have hcz46_4 : w4.cell? ⟨gb316, 4, none⟩ = some (.slice A0_4 l0_4.length c0_4) := (blk_cell BK316.out 4).trans rfl
          have hcz46_5 : w4.cell? ⟨gb316, 5, none⟩ = some (.slice A0_5 l0_5.length c0_5) := (blk_cell BK316.out 5).trans rfl
          have hfz46_0 := blk_frozen BK316.out 0
          have hfz46_1 := blk_frozen BK316.out 1
          have hfz46_2 := blk_frozen BK316.out 2
          have hfz46_3 := blk_frozen BK316.out 3
          have hfz46_4 := blk_frozen BK316.out 4
          have hfz46_5 := blk_frozen BK316.out 5
          go_wp2
          go_meet
          case rel => exact ⟨_, (decide ((l0_5.length : Int) > 0)), qGVals3_, H', ⟨qGVals5_⟩, ⟨qGVals2_⟩, ⟨qGVals1_⟩, ⟨qGVals0_⟩⟩
       ·rw [if_neg c41] at H
        have c41b0 : decide (a0_0 < 5) = false := decide_eq_false c41
        clear c41
        by_cases c47 : a0_0 = 6
        ·rw [if_pos c47] at H
         have c47b0 : (a0_0 == 6) = true := beq_iff_eq.mpr c47
         have c47b1 : (a0_0 != 6) = false := bne_eq_false_iff_eq.mpr c47
         clear c47
         have H' := Aside0.mk H
         clear H
         have hcz48_0 : w4.cell? ⟨gb316, 0, none⟩ = some (.int .i64 a0_0) := (blk_cell BK316.out 0).trans rfl
         have hcz48_1 : w4.cell? ⟨gb316, 1, none⟩ = some (.int .i64 a0_1) := (blk_cell BK316.out 1).trans rfl
         have hcz48_2 : w4.cell? ⟨gb316, 2, none⟩ = some (.int .i64 a0_2) := (blk_cell BK316.out 2).trans rfl
         have hcz48_3 : w4.cell? ⟨gb316, 3, none⟩ = some (.string a0_3) := (blk_cell BK316.out 3).trans rfl
         have hcz48_4 : w4.cell? ⟨gb316, 4, none⟩ = some (.slice A0_4 l0_4.length c0_4) := (blk_cell BK316.out 4).trans rfl
         have hcz48_5 : w4.cell? ⟨gb316, 5, none⟩ = some (.slice A0_5 l0_5.length c0_5) := (blk_cell BK316.out 5).trans rfl
         have hfz48_0 := blk_frozen BK316.out 0
         have hfz48_1 := blk_frozen BK316.out 1
         have hfz48_2 := blk_frozen BK316.out 2
         have hfz48_3 := blk_frozen BK316.out 3
         have hfz48_4 := blk_frozen BK316.out 4
         have hfz48_5 := blk_frozen BK316.out 5
         go_wp2
         go_meet
         case rel => exact ⟨_, (false), qGVals3_, H', ⟨qGVals5_⟩, ⟨qGVals2_⟩, ⟨qGVals1_⟩, ⟨qGVals0_⟩⟩
        ·rw [if_neg c47] at H
         have c47b0 : (a0_0 == 6) = false := beq_eq_false_iff_ne.mpr c47
         have c47b1 : (a0_0 != 6) = true := bne_iff_ne.mpr c47
         have H' := Aside0.mk H
         clear H
         have hcz49_0 : w4.cell? ⟨gb316, 0, none⟩ = some (.int .i64 a0_0) := (blk_cell BK316.out 0).trans rfl
         have hcz49_1 : w4.cell? ⟨gb316, 1, none⟩ = some (.int .i64 a0_1) := (blk_cell BK316.out 1).trans rfl
         have hcz49_2 : w4.cell? ⟨gb316, 2, none⟩ = some (.int .i64 a0_2) := (blk_cell BK316.out 2).trans rfl
         have hcz49_3 : w4.cell? ⟨gb316, 3, none⟩ = some (.string a0_3) := (blk_cell BK316.out 3).trans rfl
         have hcz49_4 : w4.cell? ⟨gb316, 4, none⟩ = some (.slice A0_4 l0_4.length c0_4) := (blk_cell BK316.out 4).trans rfl
         have hcz49_5 : w4.cell? ⟨gb316, 5, none⟩ = some (.slice A0_5 l0_5.length c0_5) := (blk_cell BK316.out 5).trans rfl
         have hfz49_0 := blk_frozen BK316.out 0
         have hfz49_1 := blk_frozen BK316.out 1
         have hfz49_2 := blk_frozen BK316.out 2
         have hfz49_3 := blk_frozen BK316.out 3
         have hfz49_4 := blk_frozen BK316.out 4
         have hfz49_5 := blk_frozen BK316.out 5
         go_wp2
         go_meet
         case rel => exact ⟨_, (decide ((l0_5.length : Int) > 0)), qGVals3_, H', ⟨qGVals5_⟩, ⟨qGVals2_⟩, ⟨qGVals1_⟩, ⟨qGVals0_⟩⟩
      ·rw [if_neg c40] at H
       have c40b0 : (a0_3.toList == ([] : List UInt8)) = false := beq_eq_false_iff_ne.mpr c40
       have c40b1 : (a0_3.toList != ([] : List UInt8)) = true := bne_iff_ne.mpr c40
       have c40e : (!(a0_3.toList).isEmpty) = true := by rw [List.isEmpty_eq_false_iff.mpr c40]; rfl
       have c40g := c40
       have H' := Aside0.mk H
       clear H
       have hcz50_0 : w4.cell? ⟨gb316, 0, none⟩ = some (.int .i64 a0_0) := (blk_cell BK316.out 0).trans rfl
       have hcz50_1 : w4.cell? ⟨gb316, 1, none⟩ = some (.int .i64 a0_1) := (blk_cell BK316.out 1).trans rfl
       have hcz50_2 : w4.cell? ⟨gb316, 2, none⟩ = some (.int .i64 a0_2) := (blk_cell BK316.out 2).trans rfl
       have hcz50_3 : w4.cell? ⟨gb316, 3, none⟩ = some (.string a0_3) := (blk_cell BK316.out 3).trans rfl
       have hcz50_4 : w4.cell? ⟨gb316, 4, none⟩ = some (.slice A0_4 l0_4.length c0_4) := (blk_cell BK316.out 4).trans rfl
       have hcz50_5 : w4.cell? ⟨gb316, 5, none⟩ = some (.slice A0_5 l0_5.length c0_5) := (blk_cell BK316.out 5).trans rfl
       have hfz50_0 := blk_frozen BK316.out 0
       have hfz50_1 := blk_frozen BK316.out 1
       have hfz50_2 := blk_frozen BK316.out 2
       have hfz50_3 := blk_frozen BK316.out 3
       have hfz50_4 := blk_frozen BK316.out 4
       have hfz50_5 := blk_frozen BK316.out 5
       go_wp2
       go_meet
       case rel => exact ⟨_, (true), qGVals3_, H', ⟨qGVals5_⟩, ⟨qGVals2_⟩, ⟨qGVals1_⟩, ⟨qGVals0_⟩⟩
 case rest =>
  clear HC3
  try clear c1
  try clear c2
  try clear p2
  try clear c3
  try clear c4
  try clear c5
  try clear c5b0
  try clear c5b1
  try clear c6
  try clear c6b0
  try clear c6b1
  try clear c7
  try clear c7b0
  try clear c7b1
  try clear c8
  try clear c8b0
  try clear c9
  try clear c9b0
  try clear c9b1
  try clear c11
  try clear c11b0
  try clear c11b1
  try clear c14
  try clear c14b0
  try clear c14b1
  try clear c17
  try clear c17b0
  try clear c17b1
  try clear c18
  try clear c18b0
  try clear c19
  try clear c19b0
  try clear c19b1
  try clear c21
  try clear c21b0
  try clear c21b1
  try clear c24
  try clear c24b0
  try clear c24b1
  try clear c28
  try clear c28b0
  try clear c30
  try clear c30b0
  try clear c30b1
  try clear c31
  try clear c31b0
  try clear c32
  try clear c32b0
  try clear c32b1
  try clear c34
  try clear c34b0
  try clear c34b1
  try clear c37
  try clear c37b0
  try clear c37b1
  try clear c40
  try clear c40b0
  try clear c40b1
  try clear c41
  try clear c41b0
  try clear c42
  try clear c42b0
  try clear c42b1
  try clear c44
  try clear c44b0
  try clear c44b1
  try clear c47
  try clear c47b0
  try clear c47b1
  try clear hcz10_0
  try clear hcz10_1
  try clear hcz10_2
  try clear hcz10_3
  try clear hcz10_4
  try clear hcz10_5
  try clear hcz12_0
  try clear hcz12_1
  try clear hcz12_2
  try clear hcz12_3
  try clear hcz12_4
  try clear hcz12_5
  try clear hcz13_0
  try clear hcz13_1
  try clear hcz13_2
  try clear hcz13_3
  try clear hcz13_4
  try clear hcz13_5
  try clear hcz15_0
  try clear hcz15_1
  try clear hcz15_2
  try clear hcz15_3
  try clear hcz15_4
  try clear hcz15_5
  try clear hcz16_0
  try clear hcz16_1
  try clear hcz16_2
  try clear hcz16_3
  try clear hcz16_4
  try clear hcz16_5
  try clear hcz20_0
  try clear hcz20_1
  try clear hcz20_2
  try clear hcz20_3
  try clear hcz20_4
  try clear hcz20_5
  try clear hcz22_0
  try clear hcz22_1
  try clear hcz22_2
  try clear hcz22_3
  try clear hcz22_4
  try clear hcz22_5
  try clear hcz23_0
  try clear hcz23_1
  try clear hcz23_2
  try clear hcz23_3
  try clear hcz23_4
  try clear hcz23_5
  try clear hcz25_0
  try clear hcz25_1
  try clear hcz25_2
  try clear hcz25_3
  try clear hcz25_4
  try clear hcz25_5
  try clear hcz26_0
  try clear hcz26_1
  try clear hcz26_2
  try clear hcz26_3
  try clear hcz26_4
  try clear hcz26_5
  try clear hcz27_0
  try clear hcz27_1
  try clear hcz27_2
  try clear hcz27_3
  try clear hcz27_4
  try clear hcz27_5
  try clear hcz29_0
  try clear hcz29_1
  try clear hcz29_2
  try clear hcz29_3
  try clear hcz29_4
  try clear hcz29_5
  try clear hcz33_0
  try clear hcz33_1
  try clear hcz33_2
  try clear hcz33_3
  try clear hcz33_4
  try clear hcz33_5
  try clear hcz35_0
  try clear hcz35_1
  try clear hcz35_2
  try clear hcz35_3
  try clear hcz35_4
  try clear hcz35_5
  try clear hcz36_0
  try clear hcz36_1
  try clear hcz36_2
  try clear hcz36_3
  try clear hcz36_4
  try clear hcz36_5
  try clear hcz38_0
  try clear hcz38_1
  try clear hcz38_2
  try clear hcz38_3
  try clear hcz38_4
  try clear hcz38_5
  try clear hcz39_0
  try clear hcz39_1
  try clear hcz39_2
  try clear hcz39_3
  try clear hcz39_4
  try clear hcz39_5
  try clear hcz43_0
  try clear hcz43_1
  try clear hcz43_2
  try clear hcz43_3
  try clear hcz43_4
  try clear hcz43_5
  try clear hcz45_0
  try clear hcz45_1
  try clear hcz45_2
  try clear hcz45_3
  try clear hcz45_4
  try clear hcz45_5
  try clear hcz46_0
  try clear hcz46_1
  try clear hcz46_2
  try clear hcz46_3
  try clear hcz46_4
  try clear hcz46_5
  try clear hcz48_0
  try clear hcz48_1
  try clear hcz48_2
  try clear hcz48_3
  try clear hcz48_4
  try clear hcz48_5
  try clear hcz49_0
  try clear hcz49_1
  try clear hcz49_2
  try clear hcz49_3
  try clear hcz49_4
  try clear hcz49_5
  try clear hcz50_0
  try clear hcz50_1
  try clear hcz50_2
  try clear hcz50_3
  try clear hcz50_4
  try clear hcz50_5
  try clear hfz10_0
  try clear hfz10_1
  try clear hfz10_2
  try clear hfz10_3
  try clear hfz10_4
  try clear hfz10_5
  try clear hfz12_0
  try clear hfz12_1
  try clear hfz12_2
  try clear hfz12_3
  try clear hfz12_4
  try clear hfz12_5
  try clear hfz13_0
  try clear hfz13_1
  try clear hfz13_2
  try clear hfz13_3
  try clear hfz13_4
  try clear hfz13_5
  try clear hfz15_0
  try clear hfz15_1
  try clear hfz15_2
  try clear hfz15_3
  try clear hfz15_4
  try clear hfz15_5
  try clear hfz16_0
  try clear hfz16_1
  try clear hfz16_2
  try clear hfz16_3
  try clear hfz16_4
  try clear hfz16_5
  try clear hfz20_0
  try clear hfz20_1
  try clear hfz20_2
  try clear hfz20_3
  try clear hfz20_4
  try clear hfz20_5
  try clear hfz22_0
  try clear hfz22_1
  try clear hfz22_2
  try clear hfz22_3
  try clear hfz22_4
  try clear hfz22_5
  try clear hfz23_0
  try clear hfz23_1
  try clear hfz23_2
  try clear hfz23_3
  try clear hfz23_4
  try clear hfz23_5
  try clear hfz25_0
  try clear hfz25_1
  try clear hfz25_2
  try clear hfz25_3
  try clear hfz25_4
  try clear hfz25_5
  try clear hfz26_0
  try clear hfz26_1
  try clear hfz26_2
  try clear hfz26_3
  try clear hfz26_4
  try clear hfz26_5
  try clear hfz27_0
  try clear hfz27_1
  try clear hfz27_2
  try clear hfz27_3
  try clear hfz27_4
  try clear hfz27_5
  try clear hfz29_0
  try clear hfz29_1
  try clear hfz29_2
  try clear hfz29_3
  try clear hfz29_4
  try clear hfz29_5
  try clear hfz33_0
  try clear hfz33_1
  try clear hfz33_2
  try clear hfz33_3
  try clear hfz33_4
  try clear hfz33_5
  try clear hfz35_0
  try clear hfz35_1
  try clear hfz35_2
  try clear hfz35_3
  try clear hfz35_4
  try clear hfz35_5
  try clear hfz36_0
  try clear hfz36_1
  try clear hfz36_2
  try clear hfz36_3
  try clear hfz36_4
  try clear hfz36_5
  try clear hfz38_0
  try clear hfz38_1
  try clear hfz38_2
  try clear hfz38_3
  try clear hfz38_4
  try clear hfz38_5
  try clear hfz39_0
  try clear hfz39_1
  try clear hfz39_2
  try clear hfz39_3
  try clear hfz39_4
  try clear hfz39_5
  try clear hfz43_0
  try clear hfz43_1
  try clear hfz43_2
  try clear hfz43_3
  try clear hfz43_4
  try clear hfz43_5
  try clear hfz45_0
  try clear hfz45_1
  try clear hfz45_2
  try clear hfz45_3
  try clear hfz45_4
  try clear hfz45_5
  try clear hfz46_0
  try clear hfz46_1
  try clear hfz46_2
  try clear hfz46_3
  try clear hfz46_4
  try clear hfz46_5
  try clear hfz48_0
  try clear hfz48_1
  try clear hfz48_2
  try clear hfz48_3
  try clear hfz48_4
  try clear hfz48_5
  try clear hfz49_0
  try clear hfz49_1
  try clear hfz49_2
  try clear hfz49_3
  try clear hfz49_4
  try clear hfz49_5
  try clear hfz50_0
  try clear hfz50_1
  try clear hfz50_2
  try clear hfz50_3
  try clear hfz50_4
  try clear hfz50_5
  obtain ⟨kq, x51_2, rfl, HA, HJ2, BK316, BK3, HB⟩ := hcut
  cases kq with
  | zero => exact absurd HA.out (by simp [impl_valueOk.j0])
  | succ kj2 =>
   have H := HA.out
   clear HA
   simp only [impl_valueOk.j0] at H
   by_cases c51 : x51_2 = true
   ·subst c51
    have H1 : (some false) = some r := by rw [if_pos rfl] at H; exact H
    clear H
    have H := H1
    clear H1
    obtain rfl := Option.some.inj H
    go_wp2
    go_ret
    exact ⟨qGVals6_, qGVals0_⟩
   ·replace c51 := Bool.eq_false_iff.mpr c51
    subst c51
    have H1 : (if a0_0 = 0 then (impl_valueOk.j1 kj2 a1 a0_0 (a0_0 == 0) a0_0 a0_1 a0_2 a0_3 l0_4 l0_5) else (if a0_0 = 1 then (impl_valueOk.j1 kj2 a1 a0_0 (a0_0 == 1) a0_0 a0_1 a0_2 a0_3 l0_4 l0_5) else (if a0_0 = 2 then (impl_valueOk.j1 kj2 a1 a0_0 (a0_0 == 2) a0_0 a0_1 a0_2 a0_3 l0_4 l0_5) else (impl_valueOk.j1 kj2 a1 a0_0 (a0_0 == 5) a0_0 a0_1 a0_2 a0_3 l0_4 l0_5)))) = some r := by rw [if_neg (show ¬ (false = true) by decide)] at H; exact H
    clear H
    have H := H1
    clear H1
    have HC52 := Aside0.mk H
    clear H
    have hcz53_0 : wc.cell? ⟨gb316, 0, none⟩ = some (.int .i64 a0_0) := (blk_cell BK316.out 0).trans rfl
    have hcz53_1 : wc.cell? ⟨gb316, 1, none⟩ = some (.int .i64 a0_1) := (blk_cell BK316.out 1).trans rfl
    have hcz53_2 : wc.cell? ⟨gb316, 2, none⟩ = some (.int .i64 a0_2) := (blk_cell BK316.out 2).trans rfl
    have hcz53_3 : wc.cell? ⟨gb316, 3, none⟩ = some (.string a0_3) := (blk_cell BK316.out 3).trans rfl
    have hcz53_4 : wc.cell? ⟨gb316, 4, none⟩ = some (.slice A0_4 l0_4.length c0_4) := (blk_cell BK316.out 4).trans rfl
    have hcz53_5 : wc.cell? ⟨gb316, 5, none⟩ = some (.slice A0_5 l0_5.length c0_5) := (blk_cell BK316.out 5).trans rfl
    have hfz53_0 := blk_frozen BK316.out 0
    have hfz53_1 := blk_frozen BK316.out 1
    have hfz53_2 := blk_frozen BK316.out 2
    have hfz53_3 := blk_frozen BK316.out 3
    have hfz53_4 := blk_frozen BK316.out 4
    have hfz53_5 := blk_frozen BK316.out 5
    go_upto_if 54 with (fail)
    go_cut [54] (fun v54 wc => ∃ (kq : Nat) (x54_51 : Bool), v54 = .bool x54_51 ∧ Aside0 (impl_valueOk.j1 kq a1 a0_0 x54_51 a0_0 a0_1 a0_2 a0_3 l0_4 l0_5 = some r) ∧ Aside0 (kq ≤ kj2) ∧ Aside0 (wc.heap[gb316]? = some (.cells #[.int .i64 a0_0, .int .i64 a0_1, .int .i64 a0_2, .string a0_3, (.slice A0_4 l0_4.length c0_4), (.slice A0_5 l0_5.length c0_5)] 28 (0, 0))) ∧ Aside0 (wc.heap[gb3]? = some (.cells #[.int .i64 a1] 3 (0, 0))) ∧ Aside0 (Below w.heap.size w wc))
    case first =>
     have H := HC52.out
     clear HC52
     by_cases c54 : a0_0 = 0
     ·rw [if_pos c54] at H
      have c54b0 : (a0_0 == 0) = true := beq_iff_eq.mpr c54
      have c54b1 : (a0_0 != 0) = false := bne_eq_false_iff_eq.mpr c54
      clear c54
      (first | rw [c54b0] | (simp only [i64_w, i32_w]; rw [c54b0]) | skip)
      have H' := Aside0.mk H
      clear H
      go_wp2
      go_meet
      case rel => exact ⟨_, ((a0_0 == 0)), qGVals3_, H', qGVals10_, ⟨qGVals2_⟩, ⟨qGVals1_⟩, ⟨qGVals0_⟩⟩
     ·rw [if_neg c54] at H
      have c54b0 : (a0_0 == 0) = false := beq_eq_false_iff_ne.mpr c54
      have c54b1 : (a0_0 != 0) = true := bne_iff_ne.mpr c54
      (first | rw [c54b0] | (simp only [i64_w, i32_w]; rw [c54b0]) | skip)
      by_cases c55 : a0_0 = 1
      ·rw [if_pos c55] at H
       have c55b0 : (a0_0 == 1) = true := beq_iff_eq.mpr c55
       have c55b1 : (a0_0 != 1) = false := bne_eq_false_iff_eq.mpr c55
       clear c55
       have H' := Aside0.mk H
       clear H
       go_wp2
       go_meet
       case rel => exact ⟨_, ((a0_0 == 1)), qGVals3_, H', qGVals10_, ⟨qGVals2_⟩, ⟨qGVals1_⟩, ⟨qGVals0_⟩⟩
      ·rw [if_neg c55] at H
       have c55b0 : (a0_0 == 1) = false := beq_eq_false_iff_ne.mpr c55
       have c55b1 : (a0_0 != 1) = true := bne_iff_ne.mpr c55
       by_cases c56 : a0_0 = 2
       ·rw [if_pos c56] at H
        have c56b0 : (a0_0 == 2) = true := beq_iff_eq.mpr c56
        have c56b1 : (a0_0 != 2) = false := bne_eq_false_iff_eq.mpr c56
        clear c56
        have H' := Aside0.mk H
        clear H
        go_wp2
        go_meet
        case rel => exact ⟨_, ((a0_0 == 2)), qGVals3_, H', qGVals10_, ⟨qGVals2_⟩, ⟨qGVals1_⟩, ⟨qGVals0_⟩⟩
       ·rw [if_neg c56] at H
        have c56b0 : (a0_0 == 2) = false := beq_eq_false_iff_ne.mpr c56
        have c56b1 : (a0_0 != 2) = true := bne_iff_ne.mpr c56
        have H' := Aside0.mk H
        clear H
        go_wp2
        go_meet
        case rel => exact ⟨_, ((a0_0 == 5)), qGVals3_, H', qGVals10_, ⟨qGVals2_⟩, ⟨qGVals1_⟩, ⟨qGVals0_⟩⟩
    case rest =>
     clear HC52
     try clear c1
     try clear c2
     try clear p2
     try clear c3
     try clear c4
     try clear c5
     try clear c5b0
     try clear c5b1
     try clear c6
     try clear c6b0
     try clear c6b1
     try clear c7
     try clear c7b0
     try clear c7b1
     try clear c8
     try clear c8b0
     try clear c9
     try clear c9b0
     try clear c9b1
     try clear c11
     try clear c11b0
     try clear c11b1
     try clear c14
     try clear c14b0
     try clear c14b1
     try clear c17
     try clear c17b0
     try clear c17b1
     try clear c18
     try clear c18b0
     try clear c19
     try clear c19b0
     try clear c19b1
     try clear c21
     try clear c21b0
     try clear c21b1
     try clear c24
     try clear c24b0
     try clear c24b1
     try clear c28
     try clear c28b0
     try clear c30
     try clear c30b0
     try clear c30b1
     try clear c31
     try clear c31b0
     try clear c32
     try clear c32b0
     try clear c32b1
     try clear c34
     try clear c34b0
     try clear c34b1
     try clear c37
     try clear c37b0
     try clear c37b1
     try clear c40
     try clear c40b0
     try clear c40b1
     try clear c41
     try clear c41b0
     try clear c42
     try clear c42b0
     try clear c42b1
     try clear c44
     try clear c44b0
     try clear c44b1
     try clear c47
     try clear c47b0
     try clear c47b1
     try clear c51
     try clear c54
     try clear c54b0
     try clear c54b1
     try clear c55
     try clear c55b0
     try clear c55b1
     try clear c56
     try clear c56b0
     try clear c56b1
     try clear hcz10_0
     try clear hcz10_1
     try clear hcz10_2
     try clear hcz10_3
     try clear hcz10_4
     try clear hcz10_5
     try clear hcz12_0
     try clear hcz12_1
     try clear hcz12_2
     try clear hcz12_3
     try clear hcz12_4
     try clear hcz12_5
     try clear hcz13_0
     try clear hcz13_1
     try clear hcz13_2
     try clear hcz13_3
     try clear hcz13_4
     try clear hcz13_5
     try clear hcz15_0
     try clear hcz15_1
     try clear hcz15_2
     try clear hcz15_3
     try clear hcz15_4
     try clear hcz15_5
     try clear hcz16_0
     try clear hcz16_1
     try clear hcz16_2
     try clear hcz16_3
     try clear hcz16_4
     try clear hcz16_5
     try clear hcz20_0
     try clear hcz20_1
     try clear hcz20_2
     try clear hcz20_3
     try clear hcz20_4
     try clear hcz20_5
     try clear hcz22_0
     try clear hcz22_1
     try clear hcz22_2
     try clear hcz22_3
     try clear hcz22_4
     try clear hcz22_5
     try clear hcz23_0
     try clear hcz23_1
     try clear hcz23_2
     try clear hcz23_3
     try clear hcz23_4
     try clear hcz23_5
     try clear hcz25_0
     try clear hcz25_1
     try clear hcz25_2
     try clear hcz25_3
     try clear hcz25_4
     try clear hcz25_5
     try clear hcz26_0
     try clear hcz26_1
     try clear hcz26_2
     try clear hcz26_3
     try clear hcz26_4
     try clear hcz26_5
     try clear hcz27_0
     try clear hcz27_1
     try clear hcz27_2
     try clear hcz27_3
     try clear hcz27_4
     try clear hcz27_5
     try clear hcz29_0
     try clear hcz29_1
     try clear hcz29_2
     try clear hcz29_3
     try clear hcz29_4
     try clear hcz29_5
     try clear hcz33_0
     try clear hcz33_1
     try clear hcz33_2
     try clear hcz33_3
     try clear hcz33_4
     try clear hcz33_5
     try clear hcz35_0
     try clear hcz35_1
     try clear hcz35_2
     try clear hcz35_3
     try clear hcz35_4
     try clear hcz35_5
     try clear hcz36_0
     try clear hcz36_1
     try clear hcz36_2
     try clear hcz36_3
     try clear hcz36_4
     try clear hcz36_5
     try clear hcz38_0
     try clear hcz38_1
     try clear hcz38_2
     try clear hcz38_3
     try clear hcz38_4
     try clear hcz38_5
     try clear hcz39_0
     try clear hcz39_1
     try clear hcz39_2
     try clear hcz39_3
     try clear hcz39_4
     try clear hcz39_5
     try clear hcz43_0
     try clear hcz43_1
     try clear hcz43_2
     try clear hcz43_3
     try clear hcz43_4
     try clear hcz43_5
     try clear hcz45_0
     try clear hcz45_1
     try clear hcz45_2
     try clear hcz45_3
     try clear hcz45_4
     try clear hcz45_5
     try clear hcz46_0
     try clear hcz46_1
     try clear hcz46_2
     try clear hcz46_3
     try clear hcz46_4
     try clear hcz46_5
     try clear hcz48_0
     try clear hcz48_1
     try clear hcz48_2
     try clear hcz48_3
     try clear hcz48_4
     try clear hcz48_5
     try clear hcz49_0
     try clear hcz49_1
     try clear hcz49_2
     try clear hcz49_3
     try clear hcz49_4
     try clear hcz49_5
     try clear hcz50_0
     try clear hcz50_1
     try clear hcz50_2
     try clear hcz50_3
     try clear hcz50_4
     try clear hcz50_5
     try clear hcz53_0
     try clear hcz53_1
     try clear hcz53_2
     try clear hcz53_3
     try clear hcz53_4
     try clear hcz53_5
     try clear hfz10_0
     try clear hfz10_1
     try clear hfz10_2
     try clear hfz10_3
     try clear hfz10_4
     try clear hfz10_5
     try clear hfz12_0
     try clear hfz12_1
     try clear hfz12_2
     try clear hfz12_3
     try clear hfz12_4
     try clear hfz12_5
     try clear hfz13_0
     try clear hfz13_1
     try clear hfz13_2
     try clear hfz13_3
     try clear hfz13_4
     try clear hfz13_5
     try clear hfz15_0
     try clear hfz15_1
     try clear hfz15_2
     try clear hfz15_3
     try clear hfz15_4
     try clear hfz15_5
     try clear hfz16_0
     try clear hfz16_1
     try clear hfz16_2
     try clear hfz16_3
     try clear hfz16_4
     try clear hfz16_5
     try clear hfz20_0
     try clear hfz20_1
     try clear hfz20_2
     try clear hfz20_3
     try clear hfz20_4
     try clear hfz20_5
     try clear hfz22_0
     try clear hfz22_1
     try clear hfz22_2
     try clear hfz22_3
     try clear hfz22_4
     try clear hfz22_5
     try clear hfz23_0
     try clear hfz23_1
     try clear hfz23_2
     try clear hfz23_3
     try clear hfz23_4
     try clear hfz23_5
     try clear hfz25_0
     try clear hfz25_1
     try clear hfz25_2
     try clear hfz25_3
     try clear hfz25_4
     try clear hfz25_5
     try clear hfz26_0
     try clear hfz26_1
     try clear hfz26_2
     try clear hfz26_3
     try clear hfz26_4
     try clear hfz26_5
     try clear hfz27_0
     try clear hfz27_1
     try clear hfz27_2
     try clear hfz27_3
     try clear hfz27_4
     try clear hfz27_5
     try clear hfz29_0
     try clear hfz29_1
     try clear hfz29_2
     try clear hfz29_3
     try clear hfz29_4
     try clear hfz29_5
     try clear hfz33_0
     try clear hfz33_1
     try clear hfz33_2
     try clear hfz33_3
     try clear hfz33_4
     try clear hfz33_5
     try clear hfz35_0
     try clear hfz35_1
     try clear hfz35_2
     try clear hfz35_3
     try clear hfz35_4
     try clear hfz35_5
     try clear hfz36_0
     try clear hfz36_1
     try clear hfz36_2
     try clear hfz36_3
     try clear hfz36_4
     try clear hfz36_5
     try clear hfz38_0
     try clear hfz38_1
     try clear hfz38_2
     try clear hfz38_3
     try clear hfz38_4
     try clear hfz38_5
     try clear hfz39_0
     try clear hfz39_1
     try clear hfz39_2
     try clear hfz39_3
     try clear hfz39_4
     try clear hfz39_5
     try clear hfz43_0
     try clear hfz43_1
     try clear hfz43_2
     try clear hfz43_3
     try clear hfz43_4
     try clear hfz43_5
     try clear hfz45_0
     try clear hfz45_1
     try clear hfz45_2
     try clear hfz45_3
     try clear hfz45_4
     try clear hfz45_5
     try clear hfz46_0
     try clear hfz46_1
     try clear hfz46_2
     try clear hfz46_3
     try clear hfz46_4
     try clear hfz46_5
     try clear hfz48_0
     try clear hfz48_1
     try clear hfz48_2
     try clear hfz48_3
     try clear hfz48_4
     try clear hfz48_5
     try clear hfz49_0
     try clear hfz49_1
     try clear hfz49_2
     try clear hfz49_3
     try clear hfz49_4
     try clear hfz49_5
     try clear hfz50_0
     try clear hfz50_1
     try clear hfz50_2
     try clear hfz50_3
     try clear hfz50_4
     try clear hfz50_5
     try clear hfz53_0
     try clear hfz53_1
     try clear hfz53_2
     try clear hfz53_3
     try clear hfz53_4
     try clear hfz53_5
     try clear p2
     obtain ⟨kq, x54_51, rfl, HA, HJ51, BK316, BK3, HB⟩ := hcut
     cases kq with
     | zero => exact absurd HA.out (by simp [impl_valueOk.j1])
     | succ kj51 =>
      have H := HA.out
      clear HA
      simp only [impl_valueOk.j1] at H
      by_cases c57 : x54_51 = true
      ·subst c57
       have H1 : ((conV.f kj51 l0_4 a1).bind fun t317 => (some (!t317))) = some r := by rw [if_pos rfl] at H; exact H
       clear H
       have H := H1
       clear H1
       replace H := Option.bind_eq_some_iff.mp H
       obtain ⟨t317, A580, H⟩ := H
       replace H : (some (!t317)) = some r := H
       have A58 := Aside0.mk A580
       clear A580
       obtain rfl := Option.some.inj H
       have hcz59_0 : wc.cell? ⟨gb316, 0, none⟩ = some (.int .i64 a0_0) := (blk_cell BK316.out 0).trans rfl
       have hcz59_1 : wc.cell? ⟨gb316, 1, none⟩ = some (.int .i64 a0_1) := (blk_cell BK316.out 1).trans rfl
       have hcz59_2 : wc.cell? ⟨gb316, 2, none⟩ = some (.int .i64 a0_2) := (blk_cell BK316.out 2).trans rfl
       have hcz59_3 : wc.cell? ⟨gb316, 3, none⟩ = some (.string a0_3) := (blk_cell BK316.out 3).trans rfl
       have hcz59_4 : wc.cell? ⟨gb316, 4, none⟩ = some (.slice A0_4 l0_4.length c0_4) := (blk_cell BK316.out 4).trans rfl
       have hcz59_5 : wc.cell? ⟨gb316, 5, none⟩ = some (.slice A0_5 l0_5.length c0_5) := (blk_cell BK316.out 5).trans rfl
       have hfz59_0 := blk_frozen BK316.out 0
       have hfz59_1 := blk_frozen BK316.out 1
       have hfz59_2 := blk_frozen BK316.out 2
       have hfz59_3 := blk_frozen BK316.out 3
       have hfz59_4 := blk_frozen BK316.out 4
       have hfz59_5 := blk_frozen BK316.out 5
       go_wp2_with (first | ((with_reducible refine gate_callee (f := 100) rfl ?_); refine goesL_ (some 108) rfl rfl Tryd.func100 (by kernel_rfl) rfl #[.slice A0_4 l0_4.length c0_4, .func (.func 107) #[] #[.pointer (some ⟨gb3, 0, none⟩)]] rfl qGVals4_ ?_; (with_reducible refine (CON kj51 (by have := HJ2.out; have := HJ51.out; omega) _ _ l0_4 a1 t317 _ gb3 ?side1 ?side2 qGVals1_ (LaidG.below (m := 2) (by decide) HGL.out qGVals0_) (show conV.f kj51 l0_4 a1 = some t317 from A58.out)).mono ?_); (case side1 => exact qGVals9_); (case side2 => exact (by exact HC0_4.out)); rintro e w_ ⟨rfl, hb⟩; refine ⟨_, rfl, ?_⟩; have n0_ := Aside0.mk (blk_below (g := gb316) (o := .cells #[.int .i64 a0_0, .int .i64 a0_1, .int .i64 a0_2, .string a0_3, .slice A0_4 l0_4.length c0_4, .slice A0_5 l0_5.length c0_5] 28 (0, 0)) qGVals2_ hb); have n1_ := Aside0.mk (below_step qGVals0_ hb); have m3_ := Aside0.mk (blk_below (g := gb3) (o := .cells #[.int .i64 a1] 3 (0, 0)) qGVals1_ hb); clear BK3; have BK3 := m3_; clear m3_ BK316 HB; have BK316 := n0_; have HB := n1_; clear n0_ n1_; (try clear hb); (try clear hb2); (try clear hk); (try clear hi)))
       go_ret
       exact ⟨qGVals6_, qGVals0_⟩
      ·replace c57 := Bool.eq_false_iff.mpr c57
       subst c57
       have H1 : (if a0_0 = 3 then ((impl_DecOk.f a0_1 a0_2).bind fun t318 => (some t318)) else (if a0_0 = 4 then (some (decide ((a0_3.size : Int) ≤ 1500))) else (if a0_0 = 6 then (impl_valueOk.l0 kj51 a1 l0_5 (l0_5.length : Int) 0 a0_0 a0_1 a0_2 a0_3 l0_4 l0_5) else (some false)))) = some r := by rw [if_neg (show ¬ (false = true) by decide)] at H; exact H
       clear H
       have H := H1
       clear H1
       by_cases c61 : a0_0 = 3
       ·rw [if_pos c61] at H
        have c61b0 : (a0_0 == 3) = true := beq_iff_eq.mpr c61
        have c61b1 : (a0_0 != 3) = false := bne_eq_false_iff_eq.mpr c61
        clear c61
        replace H := Option.bind_eq_some_iff.mp H
        obtain ⟨t318, A620, H⟩ := H
        replace H : (some t318) = some r := H
        have A62 := Aside0.mk A620
        clear A620
        obtain rfl := Option.some.inj H
        have hcz63_0 : wc.cell? ⟨gb316, 0, none⟩ = some (.int .i64 a0_0) := (blk_cell BK316.out 0).trans rfl
        have hcz63_1 : wc.cell? ⟨gb316, 1, none⟩ = some (.int .i64 a0_1) := (blk_cell BK316.out 1).trans rfl
        have hcz63_2 : wc.cell? ⟨gb316, 2, none⟩ = some (.int .i64 a0_2) := (blk_cell BK316.out 2).trans rfl
        have hcz63_3 : wc.cell? ⟨gb316, 3, none⟩ = some (.string a0_3) := (blk_cell BK316.out 3).trans rfl
        have hcz63_4 : wc.cell? ⟨gb316, 4, none⟩ = some (.slice A0_4 l0_4.length c0_4) := (blk_cell BK316.out 4).trans rfl
        have hcz63_5 : wc.cell? ⟨gb316, 5, none⟩ = some (.slice A0_5 l0_5.length c0_5) := (blk_cell BK316.out 5).trans rfl
        have hfz63_0 := blk_frozen BK316.out 0
        have hfz63_1 := blk_frozen BK316.out 1
        have hfz63_2 := blk_frozen BK316.out 2
        have hfz63_3 := blk_frozen BK316.out 3
        have hfz63_4 := blk_frozen BK316.out 4
        have hfz63_5 := blk_frozen BK316.out 5
        go_wp2_with (first | ((with_reducible refine gate_callee (f := 76) rfl ?_); refine goesL_ (some 63) rfl rfl Tryd.func76 (by kernel_rfl) rfl #[.agg #[.int .i64 a0_1, .int .i64 a0_2]] rfl qGVals4_ ?_; (with_reducible refine (impl_DecOk.calls a0_1 a0_2 t318 _ A62.out).mono ?_); rintro e w_ ⟨rfl, hb⟩; refine ⟨_, rfl, ?_⟩; have n0_ := Aside0.mk (blk_below (g := gb316) (o := .cells #[.int .i64 a0_0, .int .i64 a0_1, .int .i64 a0_2, .string a0_3, .slice A0_4 l0_4.length c0_4, .slice A0_5 l0_5.length c0_5] 28 (0, 0)) qGVals2_ hb); have n1_ := Aside0.mk (below_step qGVals0_ hb); have m3_ := Aside0.mk (blk_below (g := gb3) (o := .cells #[.int .i64 a1] 3 (0, 0)) qGVals1_ hb); clear BK3; have BK3 := m3_; clear m3_ BK316 HB; have BK316 := n0_; have HB := n1_; clear n0_ n1_; (try clear hb); (try clear hb2); (try clear hk); (try clear hi)))
        go_ret
        exact ⟨qGVals6_, qGVals0_⟩
       ·rw [if_neg c61] at H
        have c61b0 : (a0_0 == 3) = false := beq_eq_false_iff_ne.mpr c61
        have c61b1 : (a0_0 != 3) = true := bne_iff_ne.mpr c61
        by_cases c65 : a0_0 = 4
        ·rw [if_pos c65] at H
         have c65b0 : (a0_0 == 4) = true := beq_iff_eq.mpr c65
         have c65b1 : (a0_0 != 4) = false := bne_eq_false_iff_eq.mpr c65
         clear c65
         obtain rfl := Option.some.inj H
         have hcz66_0 : wc.cell? ⟨gb316, 0, none⟩ = some (.int .i64 a0_0) := (blk_cell BK316.out 0).trans rfl
         have hcz66_1 : wc.cell? ⟨gb316, 1, none⟩ = some (.int .i64 a0_1) := (blk_cell BK316.out 1).trans rfl
         have hcz66_2 : wc.cell? ⟨gb316, 2, none⟩ = some (.int .i64 a0_2) := (blk_cell BK316.out 2).trans rfl
         have hcz66_3 : wc.cell? ⟨gb316, 3, none⟩ = some (.string a0_3) := (blk_cell BK316.out 3).trans rfl
         have hcz66_4 : wc.cell? ⟨gb316, 4, none⟩ = some (.slice A0_4 l0_4.length c0_4) := (blk_cell BK316.out 4).trans rfl
         have hcz66_5 : wc.cell? ⟨gb316, 5, none⟩ = some (.slice A0_5 l0_5.length c0_5) := (blk_cell BK316.out 5).trans rfl
         have hfz66_0 := blk_frozen BK316.out 0
         have hfz66_1 := blk_frozen BK316.out 1
         have hfz66_2 := blk_frozen BK316.out 2
         have hfz66_3 := blk_frozen BK316.out 3
         have hfz66_4 := blk_frozen BK316.out 4
         have hfz66_5 := blk_frozen BK316.out 5
         go_wp2
         go_ret
         exact ⟨qGVals6_, qGVals0_⟩
        ·rw [if_neg c65] at H
         have c65b0 : (a0_0 == 4) = false := beq_eq_false_iff_ne.mpr c65
         have c65b1 : (a0_0 != 4) = true := bne_iff_ne.mpr c65
         by_cases c67 : a0_0 = 6
         ·rw [if_pos c67] at H
          have c67b0 : (a0_0 == 6) = true := beq_iff_eq.mpr c67
          have c67b1 : (a0_0 != 6) = false := bne_eq_false_iff_eq.mpr c67
          clear c67
          have H' := Aside0.mk H
          clear H
          have hcz68_0 : wc.cell? ⟨gb316, 0, none⟩ = some (.int .i64 a0_0) := (blk_cell BK316.out 0).trans rfl
          have hcz68_1 : wc.cell? ⟨gb316, 1, none⟩ = some (.int .i64 a0_1) := (blk_cell BK316.out 1).trans rfl
          have hcz68_2 : wc.cell? ⟨gb316, 2, none⟩ = some (.int .i64 a0_2) := (blk_cell BK316.out 2).trans rfl
          have hcz68_3 : wc.cell? ⟨gb316, 3, none⟩ = some (.string a0_3) := (blk_cell BK316.out 3).trans rfl
          have hcz68_4 : wc.cell? ⟨gb316, 4, none⟩ = some (.slice A0_4 l0_4.length c0_4) := (blk_cell BK316.out 4).trans rfl
          have hcz68_5 : wc.cell? ⟨gb316, 5, none⟩ = some (.slice A0_5 l0_5.length c0_5) := (blk_cell BK316.out 5).trans rfl
          have hfz68_0 := blk_frozen BK316.out 0
          have hfz68_1 := blk_frozen BK316.out 1
          have hfz68_2 := blk_frozen BK316.out 2
          have hfz68_3 := blk_frozen BK316.out 3
          have hfz68_4 := blk_frozen BK316.out 4
          have hfz68_5 := blk_frozen BK316.out 5
          go_wp2
          go_loopg [75] kj51 (fun kq v75 w' => ∃ (x75_3 : Int), v75 = .int .i64 x75_3 ∧ Aside0 (impl_valueOk.l0 kq a1 l0_5 (l0_5.length : Int) x75_3 a0_0 a0_1 a0_2 a0_3 l0_4 l0_5 = some r) ∧ Aside0 (kq ≤ kj51) ∧ Aside0 (w'.heap[gb316]? = some (.cells #[.int .i64 a0_0, .int .i64 a0_1, .int .i64 a0_2, .string a0_3, (.slice A0_4 l0_4.length c0_4), (.slice A0_5 l0_5.length c0_5)] 28 (0, 0))) ∧ Aside0 (w'.heap[gb3]? = some (.cells #[.int .i64 a1] 3 (0, 0))) ∧ Aside0 (Below w.heap.size w w'))
          case atStart => exact ⟨(0), qGVals3_, H', ⟨Nat.le_refl _⟩, ⟨qGVals2_⟩, ⟨qGVals1_⟩, ⟨qGVals0_⟩⟩
          case round =>
           clear H'
           try clear c1
           try clear c2
           try clear p2
           try clear c3
           try clear c4
           try clear c5
           try clear c5b0
           try clear c5b1
           try clear c6
           try clear c6b0
           try clear c6b1
           try clear c7
           try clear c7b0
           try clear c7b1
           try clear c8
           try clear c8b0
           try clear c9
           try clear c9b0
           try clear c9b1
           try clear c10
           try clear c11
           try clear c11b0
           try clear c11b1
           try clear c14
           try clear c14b0
           try clear c14b1
           try clear c17
           try clear c17b0
           try clear c17b1
           try clear c18
           try clear c18b0
           try clear c19
           try clear c19b0
           try clear c19b1
           try clear c21
           try clear c21b0
           try clear c21b1
           try clear c24
           try clear c24b0
           try clear c24b1
           try clear c28
           try clear c28b0
           try clear c30
           try clear c30b0
           try clear c30b1
           try clear c31
           try clear c31b0
           try clear c32
           try clear c32b0
           try clear c32b1
           try clear c34
           try clear c34b0
           try clear c34b1
           try clear c37
           try clear c37b0
           try clear c37b1
           try clear c40
           try clear c40b0
           try clear c40b1
           try clear c41
           try clear c41b0
           try clear c42
           try clear c42b0
           try clear c42b1
           try clear c44
           try clear c44b0
           try clear c44b1
           try clear c47
           try clear c47b0
           try clear c47b1
           try clear c51
           try clear c54
           try clear c54b0
           try clear c54b1
           try clear c55
           try clear c55b0
           try clear c55b1
           try clear c56
           try clear c56b0
           try clear c56b1
           try clear c57
           try clear c61
           try clear c61b0
           try clear c61b1
           try clear c65
           try clear c65b0
           try clear c65b1
           try clear c67
           try clear c67b0
           try clear c67b1
           try clear hcz10_0
           try clear hcz10_1
           try clear hcz10_2
           try clear hcz10_3
           try clear hcz10_4
           try clear hcz10_5
           try clear hcz12_0
           try clear hcz12_1
           try clear hcz12_2
           try clear hcz12_3
           try clear hcz12_4
           try clear hcz12_5
           try clear hcz13_0
           try clear hcz13_1
           try clear hcz13_2
           try clear hcz13_3
           try clear hcz13_4
           try clear hcz13_5
           try clear hcz15_0
           try clear hcz15_1
           try clear hcz15_2
           try clear hcz15_3
           try clear hcz15_4
           try clear hcz15_5
           try clear hcz16_0
           try clear hcz16_1
           try clear hcz16_2
           try clear hcz16_3
           try clear hcz16_4
           try clear hcz16_5
           try clear hcz20_0
           try clear hcz20_1
           try clear hcz20_2
           try clear hcz20_3
           try clear hcz20_4
           try clear hcz20_5
           try clear hcz22_0
           try clear hcz22_1
           try clear hcz22_2
           try clear hcz22_3
           try clear hcz22_4
           try clear hcz22_5
           try clear hcz23_0
           try clear hcz23_1
           try clear hcz23_2
           try clear hcz23_3
           try clear hcz23_4
           try clear hcz23_5
           try clear hcz25_0
           try clear hcz25_1
           try clear hcz25_2
           try clear hcz25_3
           try clear hcz25_4
           try clear hcz25_5
           try clear hcz26_0
           try clear hcz26_1
           try clear hcz26_2
           try clear hcz26_3
           try clear hcz26_4
           try clear hcz26_5
           try clear hcz27_0
           try clear hcz27_1
           try clear hcz27_2
           try clear hcz27_3
           try clear hcz27_4
           try clear hcz27_5
           try clear hcz29_0
           try clear hcz29_1
           try clear hcz29_2
           try clear hcz29_3
           try clear hcz29_4
           try clear hcz29_5
           try clear hcz33_0
           try clear hcz33_1
           try clear hcz33_2
           try clear hcz33_3
           try clear hcz33_4
           try clear hcz33_5
           try clear hcz35_0
           try clear hcz35_1
           try clear hcz35_2
           try clear hcz35_3
           try clear hcz35_4
           try clear hcz35_5
           try clear hcz36_0
           try clear hcz36_1
           try clear hcz36_2
           try clear hcz36_3
           try clear hcz36_4
           try clear hcz36_5
           try clear hcz38_0
           try clear hcz38_1
           try clear hcz38_2
           try clear hcz38_3
           try clear hcz38_4
           try clear hcz38_5
           try clear hcz39_0
           try clear hcz39_1
           try clear hcz39_2
           try clear hcz39_3
           try clear hcz39_4
           try clear hcz39_5
           try clear hcz43_0
           try clear hcz43_1
           try clear hcz43_2
           try clear hcz43_3
           try clear hcz43_4
           try clear hcz43_5
           try clear hcz45_0
           try clear hcz45_1
           try clear hcz45_2
           try clear hcz45_3
           try clear hcz45_4
           try clear hcz45_5
           try clear hcz46_0
           try clear hcz46_1
           try clear hcz46_2
           try clear hcz46_3
           try clear hcz46_4
           try clear hcz46_5
           try clear hcz48_0
           try clear hcz48_1
           try clear hcz48_2
           try clear hcz48_3
           try clear hcz48_4
           try clear hcz48_5
           try clear hcz49_0
           try clear hcz49_1
           try clear hcz49_2
           try clear hcz49_3
           try clear hcz49_4
           try clear hcz49_5
           try clear hcz50_0
           try clear hcz50_1
           try clear hcz50_2
           try clear hcz50_3
           try clear hcz50_4
           try clear hcz50_5
           try clear hcz53_0
           try clear hcz53_1
           try clear hcz53_2
           try clear hcz53_3
           try clear hcz53_4
           try clear hcz53_5
           try clear hcz59_0
           try clear hcz59_1
           try clear hcz59_2
           try clear hcz59_3
           try clear hcz59_4
           try clear hcz59_5
           try clear hcz63_0
           try clear hcz63_1
           try clear hcz63_2
           try clear hcz63_3
           try clear hcz63_4
           try clear hcz63_5
           try clear hcz66_0
           try clear hcz66_1
           try clear hcz66_2
           try clear hcz66_3
           try clear hcz66_4
           try clear hcz66_5
           try clear hcz68_0
           try clear hcz68_1
           try clear hcz68_2
           try clear hcz68_3
           try clear hcz68_4
           try clear hcz68_5
           try clear hfz10_0
           try clear hfz10_1
           try clear hfz10_2
           try clear hfz10_3
           try clear hfz10_4
           try clear hfz10_5
           try clear hfz12_0
           try clear hfz12_1
           try clear hfz12_2
           try clear hfz12_3
           try clear hfz12_4
           try clear hfz12_5
           try clear hfz13_0
           try clear hfz13_1
           try clear hfz13_2
           try clear hfz13_3
           try clear hfz13_4
           try clear hfz13_5
           try clear hfz15_0
           try clear hfz15_1
           try clear hfz15_2
           try clear hfz15_3
           try clear hfz15_4
           try clear hfz15_5
           try clear hfz16_0
           try clear hfz16_1
           try clear hfz16_2
           try clear hfz16_3
           try clear hfz16_4
           try clear hfz16_5
           try clear hfz20_0
           try clear hfz20_1
           try clear hfz20_2
           try clear hfz20_3
           try clear hfz20_4
           try clear hfz20_5
           try clear hfz22_0
           try clear hfz22_1
           try clear hfz22_2
           try clear hfz22_3
           try clear hfz22_4
           try clear hfz22_5
           try clear hfz23_0
           try clear hfz23_1
           try clear hfz23_2
           try clear hfz23_3
           try clear hfz23_4
           try clear hfz23_5
           try clear hfz25_0
           try clear hfz25_1
           try clear hfz25_2
           try clear hfz25_3
           try clear hfz25_4
           try clear hfz25_5
           try clear hfz26_0
           try clear hfz26_1
           try clear hfz26_2
           try clear hfz26_3
           try clear hfz26_4
           try clear hfz26_5
           try clear hfz27_0
           try clear hfz27_1
           try clear hfz27_2
           try clear hfz27_3
           try clear hfz27_4
           try clear hfz27_5
           try clear hfz29_0
           try clear hfz29_1
           try clear hfz29_2
           try clear hfz29_3
           try clear hfz29_4
           try clear hfz29_5
           try clear hfz33_0
           try clear hfz33_1
           try clear hfz33_2
           try clear hfz33_3
           try clear hfz33_4
           try clear hfz33_5
           try clear hfz35_0
           try clear hfz35_1
           try clear hfz35_2
           try clear hfz35_3
           try clear hfz35_4
           try clear hfz35_5
           try clear hfz36_0
           try clear hfz36_1
           try clear hfz36_2
           try clear hfz36_3
           try clear hfz36_4
           try clear hfz36_5
           try clear hfz38_0
           try clear hfz38_1
           try clear hfz38_2
           try clear hfz38_3
           try clear hfz38_4
           try clear hfz38_5
           try clear hfz39_0
           try clear hfz39_1
           try clear hfz39_2
           try clear hfz39_3
           try clear hfz39_4
           try clear hfz39_5
           try clear hfz43_0
           try clear hfz43_1
           try clear hfz43_2
           try clear hfz43_3
           try clear hfz43_4
           try clear hfz43_5
           try clear hfz45_0
           try clear hfz45_1
           try clear hfz45_2
           try clear hfz45_3
           try clear hfz45_4
           try clear hfz45_5
           try clear hfz46_0
           try clear hfz46_1
           try clear hfz46_2
           try clear hfz46_3
           try clear hfz46_4
           try clear hfz46_5
           try clear hfz48_0
           try clear hfz48_1
           try clear hfz48_2
           try clear hfz48_3
           try clear hfz48_4
           try clear hfz48_5
           try clear hfz49_0
           try clear hfz49_1
           try clear hfz49_2
           try clear hfz49_3
           try clear hfz49_4
           try clear hfz49_5
           try clear hfz50_0
           try clear hfz50_1
           try clear hfz50_2
           try clear hfz50_3
           try clear hfz50_4
           try clear hfz50_5
           try clear hfz53_0
           try clear hfz53_1
           try clear hfz53_2
           try clear hfz53_3
           try clear hfz53_4
           try clear hfz53_5
           try clear hfz59_0
           try clear hfz59_1
           try clear hfz59_2
           try clear hfz59_3
           try clear hfz59_4
           try clear hfz59_5
           try clear hfz63_0
           try clear hfz63_1
           try clear hfz63_2
           try clear hfz63_3
           try clear hfz63_4
           try clear hfz63_5
           try clear hfz66_0
           try clear hfz66_1
           try clear hfz66_2
           try clear hfz66_3
           try clear hfz66_4
           try clear hfz66_5
           try clear hfz68_0
           try clear hfz68_1
           try clear hfz68_2
           try clear hfz68_3
           try clear hfz68_4
           try clear hfz68_5
           try clear p2
           obtain ⟨x75_3, rfl, HA, HK3, BK316, BK3, HB⟩ := hrel
           cases gk with
           | zero => exact absurd HA.out (by simp [impl_valueOk.l0])
           | succ k3 =>
            have H := HA.out
            clear HA
            simp only [impl_valueOk.l0] at H
            by_cases c69 : x75_3 < (l0_5.length : Int)
            ·rw [if_pos c69] at H
             have c69b0 : decide (x75_3 < (l0_5.length : Int)) = true := decide_eq_true c69
             clear c69
             by_cases c70 : 0 ≤ x75_3
             ·rw [if_pos c70] at H
              have c70b0 : decide (0 ≤ x75_3) = true := decide_eq_true c70
              have c70q := c70
              clear c70
              by_cases c71 : x75_3 < (l0_5.length : Int)
              ·rw [if_pos c71] at H
               have c71b0 : decide (x75_3 < (l0_5.length : Int)) = true := decide_eq_true c71
               clear c71
               replace H := Option.bind_eq_some_iff.mp H
               obtain ⟨t320, A720, H⟩ := H
               replace H : (if t320 = true then (if x75_3 > 0 then (if 0 ≤ (wrap64 (x75_3 - 1)) then (if (wrap64 (x75_3 - 1)) < (l0_5.length : Int) then (if ((Op.bytesLess ((rdOf ByteArray.empty l0_5 (wrap64 (x75_3 - 1))).toList) ((rdOf ByteArray.empty l0_5 x75_3).toList)) = true) then (impl_valueOk.l0 k3 a1 l0_5 (l0_5.length : Int) (wrap64 (x75_3 + 1)) a0_0 a0_1 a0_2 a0_3 l0_4 l0_5) else (some false)) else (none)) else (none)) else (impl_valueOk.l0 k3 a1 l0_5 (l0_5.length : Int) (wrap64 (x75_3 + 1)) a0_0 a0_1 a0_2 a0_3 l0_4 l0_5)) else (some false)) = some r := H
               have A72 := Aside0.mk A720
               clear A720
               by_cases c73 : t320 = true
               ·subst c73
                have H1 : (if x75_3 > 0 then (if 0 ≤ (wrap64 (x75_3 - 1)) then (if (wrap64 (x75_3 - 1)) < (l0_5.length : Int) then (if ((Op.bytesLess ((rdOf ByteArray.empty l0_5 (wrap64 (x75_3 - 1))).toList) ((rdOf ByteArray.empty l0_5 x75_3).toList)) = true) then (impl_valueOk.l0 k3 a1 l0_5 (l0_5.length : Int) (wrap64 (x75_3 + 1)) a0_0 a0_1 a0_2 a0_3 l0_4 l0_5) else (some false)) else (none)) else (none)) else (impl_valueOk.l0 k3 a1 l0_5 (l0_5.length : Int) (wrap64 (x75_3 + 1)) a0_0 a0_1 a0_2 a0_3 l0_4 l0_5)) = some r := by rw [if_pos rfl] at H; exact H
                clear H
                have H := H1
                clear H1
                by_cases c74 : x75_3 > 0
                ·rw [if_pos c74] at H
                 have c74b0 : decide (0 < x75_3) = true := decide_eq_true c74
                 clear c74
                 obtain ⟨ji75, hji75⟩ : ∃ j_ : Int, (wrap64 (x75_3 - 1)) = j_ := ⟨_, rfl⟩
                 replace H : (if 0 ≤ (ji75) then (if (ji75) < (l0_5.length : Int) then (if ((Op.bytesLess ((rdOf ByteArray.empty l0_5 (ji75)).toList) ((rdOf ByteArray.empty l0_5 x75_3).toList)) = true) then (impl_valueOk.l0 k3 a1 l0_5 (l0_5.length : Int) (wrap64 (x75_3 + 1)) a0_0 a0_1 a0_2 a0_3 l0_4 l0_5) else (some false)) else (none)) else (none)) = some r := by first | (rw [hji75] at H; exact H) | (simp only [hji75] at H ⊢; exact H)
                 (try rw [hji75] at A72)
                 have hji75w : (IntKind.i64.wrap (x75_3 - 1)) = ji75 := (i64_w _).trans hji75
                 by_cases c76 : 0 ≤ (ji75)
                 ·rw [if_pos c76] at H
                  have c76b0 : decide (0 ≤ (ji75)) = true := decide_eq_true c76
                  have c76q := c76
                  clear c76
                  by_cases c77 : (ji75) < (l0_5.length : Int)
                  ·rw [if_pos c77] at H
                   have c77b0 : decide ((ji75) < (l0_5.length : Int)) = true := decide_eq_true c77
                   clear c77
                   by_cases c78 : ((Op.bytesLess ((rdOf ByteArray.empty l0_5 (ji75)).toList) ((rdOf ByteArray.empty l0_5 x75_3).toList)) = true)
                   ·rw [if_pos c78] at H
                    have c78b0 : (Op.bytesLess ((rdOf ByteArray.empty l0_5 (ji75)).toList) ((rdOf ByteArray.empty l0_5 x75_3).toList)) = true := c78
                    clear c78
                    have H' := Aside0.mk H
                    clear H
                    have p319 : 0 ≤ (x75_3 : Int) := of_decide_eq_true qGVals7_
                    have q319 : x75_3 < (l0_5.length : Int) := of_decide_eq_true qGVals7_
                    obtain ⟨ad319, e319, hx319_0⟩ := Kd.at_string HR0_5.out x75_3 p319 q319
                    cases e319
                    replace hx319_0 := (HB.out.cell (World.block_lt_of_cell? w _ hx319_0)).trans hx319_0
                    replace p319 := eq_true p319
                    replace q319 := eq_true q319
                    go_wp2_with (first | ((with_reducible refine gate_callee (f := 106) rfl ?_); refine goesL_ (some 81) rfl rfl Tryd.func106 (by kernel_rfl) rfl #[.string (rdOf ByteArray.empty l0_5 x75_3)] rfl qGVals4_ ?_; (with_reducible refine (impl_NameOk.calls (rdOf ByteArray.empty l0_5 x75_3) true _ ?side1 A72.out).mono ?_); (case side1 => exact qGVals11_); rintro e w_ ⟨rfl, hb⟩; refine ⟨_, rfl, ?_⟩; have n0_ := Aside0.mk (blk_below (g := gb316) (o := .cells #[.int .i64 a0_0, .int .i64 a0_1, .int .i64 a0_2, .string a0_3, .slice A0_4 l0_4.length c0_4, .slice (some ad319) l0_5.length c0_5] 28 (0, 0)) qGVals2_ hb); have n1_ := Aside0.mk (below_step qGVals0_ hb); have m3_ := Aside0.mk (blk_below (g := gb3) (o := .cells #[.int .i64 a1] 3 (0, 0)) qGVals1_ hb); clear BK3; have BK3 := m3_; clear m3_ BK316 HB; have BK316 := n0_; have HB := n1_; clear n0_ n1_; (try clear hb); (try clear hb2); (try clear hk); (try clear hi); have hcz80_0 : w_.cell? ⟨gb316, 0, none⟩ = some (.int .i64 a0_0) := (blk_cell BK316.out 0).trans rfl; have hcz80_1 : w_.cell? ⟨gb316, 1, none⟩ = some (.int .i64 a0_1) := (blk_cell BK316.out 1).trans rfl; have hcz80_2 : w_.cell? ⟨gb316, 2, none⟩ = some (.int .i64 a0_2) := (blk_cell BK316.out 2).trans rfl; have hcz80_3 : w_.cell? ⟨gb316, 3, none⟩ = some (.string a0_3) := (blk_cell BK316.out 3).trans rfl; have hcz80_4 : w_.cell? ⟨gb316, 4, none⟩ = some (.slice A0_4 l0_4.length c0_4) := (blk_cell BK316.out 4).trans rfl; have hcz80_5 : w_.cell? ⟨gb316, 5, none⟩ = some (.slice (some ad319) l0_5.length c0_5) := (blk_cell BK316.out 5).trans rfl; have hfz80_0 := blk_frozen BK316.out 0; have hfz80_1 := blk_frozen BK316.out 1; have hfz80_2 := blk_frozen BK316.out 2; have hfz80_3 := blk_frozen BK316.out 3; have hfz80_4 := blk_frozen BK316.out 4; have hfz80_5 := blk_frozen BK316.out 5; have p321 : 0 ≤ ((ji75) : Int) := of_decide_eq_true qGVals7_; have q321 : (ji75) < (l0_5.length : Int) := of_decide_eq_true qGVals7_; obtain ⟨ad321, e321, hx321_0⟩ := Kd.at_string HR0_5.out (ji75) p321 q321; obtain rfl : ad319 = ad321 := (by injection e321); replace hx321_0 := (HB.out.cell (World.block_lt_of_cell? w _ hx321_0)).trans hx321_0; replace p321 := eq_true p321; replace q321 := eq_true q321))
                    go_roundg k3
                    case measure => have := HJ2.out; have := HJ51.out; have := HK3.out; omega
                    case rel => exact qGVals12_
                   ·rw [if_neg c78] at H
                    have c78b0 : (Op.bytesLess ((rdOf ByteArray.empty l0_5 (ji75)).toList) ((rdOf ByteArray.empty l0_5 x75_3).toList)) = false := by simpa using c78
                    clear c78
                    obtain rfl := Option.some.inj H
                    have p319 : 0 ≤ (x75_3 : Int) := of_decide_eq_true qGVals7_
                    have q319 : x75_3 < (l0_5.length : Int) := of_decide_eq_true qGVals7_
                    obtain ⟨ad319, e319, hx319_0⟩ := Kd.at_string HR0_5.out x75_3 p319 q319
                    cases e319
                    replace hx319_0 := (HB.out.cell (World.block_lt_of_cell? w _ hx319_0)).trans hx319_0
                    replace p319 := eq_true p319
                    replace q319 := eq_true q319
                    go_wp2_with (first | ((with_reducible refine gate_callee (f := 106) rfl ?_); refine goesL_ (some 81) rfl rfl Tryd.func106 (by kernel_rfl) rfl #[.string (rdOf ByteArray.empty l0_5 x75_3)] rfl qGVals4_ ?_; (with_reducible refine (impl_NameOk.calls (rdOf ByteArray.empty l0_5 x75_3) true _ ?side1 A72.out).mono ?_); (case side1 => exact qGVals11_); rintro e w_ ⟨rfl, hb⟩; refine ⟨_, rfl, ?_⟩; have n0_ := Aside0.mk (blk_below (g := gb316) (o := .cells #[.int .i64 a0_0, .int .i64 a0_1, .int .i64 a0_2, .string a0_3, .slice A0_4 l0_4.length c0_4, .slice (some ad319) l0_5.length c0_5] 28 (0, 0)) qGVals2_ hb); have n1_ := Aside0.mk (below_step qGVals0_ hb); have m3_ := Aside0.mk (blk_below (g := gb3) (o := .cells #[.int .i64 a1] 3 (0, 0)) qGVals1_ hb); clear BK3; have BK3 := m3_; clear m3_ BK316 HB; have BK316 := n0_; have HB := n1_; clear n0_ n1_; (try clear hb); (try clear hb2); (try clear hk); (try clear hi); have hcz82_0 : w_.cell? ⟨gb316, 0, none⟩ = some (.int .i64 a0_0) := (blk_cell BK316.out 0).trans rfl; have hcz82_1 : w_.cell? ⟨gb316, 1, none⟩ = some (.int .i64 a0_1) := (blk_cell BK316.out 1).trans rfl; have hcz82_2 : w_.cell? ⟨gb316, 2, none⟩ = some (.int .i64 a0_2) := (blk_cell BK316.out 2).trans rfl; have hcz82_3 : w_.cell? ⟨gb316, 3, none⟩ = some (.string a0_3) := (blk_cell BK316.out 3).trans rfl; have hcz82_4 : w_.cell? ⟨gb316, 4, none⟩ = some (.slice A0_4 l0_4.length c0_4) := (blk_cell BK316.out 4).trans rfl; have hcz82_5 : w_.cell? ⟨gb316, 5, none⟩ = some (.slice (some ad319) l0_5.length c0_5) := (blk_cell BK316.out 5).trans rfl; have hfz82_0 := blk_frozen BK316.out 0; have hfz82_1 := blk_frozen BK316.out 1; have hfz82_2 := blk_frozen BK316.out 2; have hfz82_3 := blk_frozen BK316.out 3; have hfz82_4 := blk_frozen BK316.out 4; have hfz82_5 := blk_frozen BK316.out 5; have p321 : 0 ≤ ((ji75) : Int) := of_decide_eq_true qGVals7_; have q321 : (ji75) < (l0_5.length : Int) := of_decide_eq_true qGVals7_; obtain ⟨ad321, e321, hx321_0⟩ := Kd.at_string HR0_5.out (ji75) p321 q321; obtain rfl : ad319 = ad321 := (by injection e321); replace hx321_0 := (HB.out.cell (World.block_lt_of_cell? w _ hx321_0)).trans hx321_0; replace p321 := eq_true p321; replace q321 := eq_true q321))
                    go_ret
                    exact ⟨(by first | rfl | (simp [errW_none, errW_some] <;> rfl) | (simp only [← hji75]; first | rfl | (simp [errW_none, errW_some] <;> rfl)) | (simp [*, errW_none, errW_some] <;> rfl)), qGVals0_⟩
                  ·rw [if_neg c77] at H
                   exact absurd H (by simp)
                 ·rw [if_neg c76] at H
                  exact absurd H (by simp)
                ·rw [if_neg c74] at H
                 have c74b0 : decide (0 < x75_3) = false := decide_eq_false c74
                 clear c74
                 have H' := Aside0.mk H
                 clear H
                 have p319 : 0 ≤ (x75_3 : Int) := of_decide_eq_true qGVals7_
                 have q319 : x75_3 < (l0_5.length : Int) := of_decide_eq_true qGVals7_
                 obtain ⟨ad319, e319, hx319_0⟩ := Kd.at_string HR0_5.out x75_3 p319 q319
                 cases e319
                 replace hx319_0 := (HB.out.cell (World.block_lt_of_cell? w _ hx319_0)).trans hx319_0
                 replace p319 := eq_true p319
                 replace q319 := eq_true q319
                 go_wp2_with (first | ((with_reducible refine gate_callee (f := 106) rfl ?_); refine goesL_ (some 81) rfl rfl Tryd.func106 (by kernel_rfl) rfl #[.string (rdOf ByteArray.empty l0_5 x75_3)] rfl qGVals4_ ?_; (with_reducible refine (impl_NameOk.calls (rdOf ByteArray.empty l0_5 x75_3) true _ ?side1 A72.out).mono ?_); (case side1 => exact qGVals11_); rintro e w_ ⟨rfl, hb⟩; refine ⟨_, rfl, ?_⟩; have n0_ := Aside0.mk (blk_below (g := gb316) (o := .cells #[.int .i64 a0_0, .int .i64 a0_1, .int .i64 a0_2, .string a0_3, .slice A0_4 l0_4.length c0_4, .slice (some ad319) l0_5.length c0_5] 28 (0, 0)) qGVals2_ hb); have n1_ := Aside0.mk (below_step qGVals0_ hb); have m3_ := Aside0.mk (blk_below (g := gb3) (o := .cells #[.int .i64 a1] 3 (0, 0)) qGVals1_ hb); clear BK3; have BK3 := m3_; clear m3_ BK316 HB; have BK316 := n0_; have HB := n1_; clear n0_ n1_; (try clear hb); (try clear hb2); (try clear hk); (try clear hi)))
                 go_roundg k3
                 case measure => have := HJ2.out; have := HJ51.out; have := HK3.out; omega
                 case rel => exact qGVals12_
               ·replace c73 := Bool.eq_false_iff.mpr c73
                subst c73
                have H1 : (some false) = some r := by rw [if_neg (show ¬ (false = true) by decide)] at H; exact H
                clear H
                have H := H1
                clear H1
                obtain rfl := Option.some.inj H
                have p319 : 0 ≤ (x75_3 : Int) := of_decide_eq_true qGVals7_
                have q319 : x75_3 < (l0_5.length : Int) := of_decide_eq_true qGVals7_
                obtain ⟨ad319, e319, hx319_0⟩ := Kd.at_string HR0_5.out x75_3 p319 q319
                cases e319
                replace hx319_0 := (HB.out.cell (World.block_lt_of_cell? w _ hx319_0)).trans hx319_0
                replace p319 := eq_true p319
                replace q319 := eq_true q319
                go_wp2_with (first | ((with_reducible refine gate_callee (f := 106) rfl ?_); refine goesL_ (some 81) rfl rfl Tryd.func106 (by kernel_rfl) rfl #[.string (rdOf ByteArray.empty l0_5 x75_3)] rfl qGVals4_ ?_; (with_reducible refine (impl_NameOk.calls (rdOf ByteArray.empty l0_5 x75_3) false _ ?side1 A72.out).mono ?_); (case side1 => exact qGVals11_); rintro e w_ ⟨rfl, hb⟩; refine ⟨_, rfl, ?_⟩; have n0_ := Aside0.mk (blk_below (g := gb316) (o := .cells #[.int .i64 a0_0, .int .i64 a0_1, .int .i64 a0_2, .string a0_3, .slice A0_4 l0_4.length c0_4, .slice (some ad319) l0_5.length c0_5] 28 (0, 0)) qGVals2_ hb); have n1_ := Aside0.mk (below_step qGVals0_ hb); have m3_ := Aside0.mk (blk_below (g := gb3) (o := .cells #[.int .i64 a1] 3 (0, 0)) qGVals1_ hb); clear BK3; have BK3 := m3_; clear m3_ BK316 HB; have BK316 := n0_; have HB := n1_; clear n0_ n1_; (try clear hb); (try clear hb2); (try clear hk); (try clear hi)))
                go_ret
                exact ⟨qGVals6_, qGVals0_⟩
              ·rw [if_neg c71] at H
               exact absurd H (by simp)
             ·rw [if_neg c70] at H
              exact absurd H (by simp)
            ·rw [if_neg c69] at H
             have c69b0 : decide (x75_3 < (l0_5.length : Int)) = false := decide_eq_false c69
             clear c69
             by_cases c85 : (l0_5.length : Int) = (l0_4.length : Int)
             ·rw [if_pos c85] at H
              have c85b0 : ((l0_5.length : Int) == (l0_4.length : Int)) = true := beq_iff_eq.mpr c85
              have c85b1 : ((l0_5.length : Int) != (l0_4.length : Int)) = false := bne_eq_false_iff_eq.mpr c85
              have c85b2 : (l0_5.length == l0_4.length) = true := by first | simpa using c85 | (simp at c85 ⊢; omega)
              clear c85
              replace H := Option.bind_eq_some_iff.mp H
              obtain ⟨t322, A860, H⟩ := H
              replace H : (some (!t322)) = some r := H
              have A86 := Aside0.mk A860
              clear A860
              obtain rfl := Option.some.inj H
              have hcz87_0 : wr.cell? ⟨gb316, 0, none⟩ = some (.int .i64 a0_0) := (blk_cell BK316.out 0).trans rfl
              have hcz87_1 : wr.cell? ⟨gb316, 1, none⟩ = some (.int .i64 a0_1) := (blk_cell BK316.out 1).trans rfl
              have hcz87_2 : wr.cell? ⟨gb316, 2, none⟩ = some (.int .i64 a0_2) := (blk_cell BK316.out 2).trans rfl
              have hcz87_3 : wr.cell? ⟨gb316, 3, none⟩ = some (.string a0_3) := (blk_cell BK316.out 3).trans rfl
              have hcz87_4 : wr.cell? ⟨gb316, 4, none⟩ = some (.slice A0_4 l0_4.length c0_4) := (blk_cell BK316.out 4).trans rfl
              have hcz87_5 : wr.cell? ⟨gb316, 5, none⟩ = some (.slice A0_5 l0_5.length c0_5) := (blk_cell BK316.out 5).trans rfl
              have hfz87_0 := blk_frozen BK316.out 0
              have hfz87_1 := blk_frozen BK316.out 1
              have hfz87_2 := blk_frozen BK316.out 2
              have hfz87_3 := blk_frozen BK316.out 3
              have hfz87_4 := blk_frozen BK316.out 4
              have hfz87_5 := blk_frozen BK316.out 5
              go_wp2_with (first | ((with_reducible refine gate_callee (f := 100) rfl ?_); refine goesL_ (some 108) rfl rfl Tryd.func100 (by kernel_rfl) rfl #[.slice A0_4 l0_4.length c0_4, .func (.func 107) #[] #[.pointer (some ⟨gb3, 0, none⟩)]] rfl qGVals4_ ?_; (with_reducible refine (CON k3 (by have := HJ2.out; have := HJ51.out; have := HK3.out; omega) _ _ l0_4 a1 t322 _ gb3 ?side1 ?side2 qGVals1_ (LaidG.below (m := 2) (by decide) HGL.out qGVals0_) (show conV.f k3 l0_4 a1 = some t322 from A86.out)).mono ?_); (case side1 => exact qGVals9_); (case side2 => exact (by exact HC0_4.out)); rintro e w_ ⟨rfl, hb⟩; refine ⟨_, rfl, ?_⟩; have n0_ := Aside0.mk (blk_below (g := gb316) (o := .cells #[.int .i64 a0_0, .int .i64 a0_1, .int .i64 a0_2, .string a0_3, .slice A0_4 l0_4.length c0_4, .slice A0_5 l0_5.length c0_5] 28 (0, 0)) qGVals2_ hb); have n1_ := Aside0.mk (below_step qGVals0_ hb); have m3_ := Aside0.mk (blk_below (g := gb3) (o := .cells #[.int .i64 a1] 3 (0, 0)) qGVals1_ hb); clear BK3; have BK3 := m3_; clear m3_ BK316 HB; have BK316 := n0_; have HB := n1_; clear n0_ n1_; (try clear hb); (try clear hb2); (try clear hk); (try clear hi)))
              go_ret
              exact ⟨qGVals6_, qGVals0_⟩
             ·rw [if_neg c85] at H
              have c85b0 : ((l0_5.length : Int) == (l0_4.length : Int)) = false := beq_eq_false_iff_ne.mpr c85
              have c85b1 : ((l0_5.length : Int) != (l0_4.length : Int)) = true := bne_iff_ne.mpr c85
              have c85b2 : (l0_5.length == l0_4.length) = false := by first | simpa using c85 | (simp at c85 ⊢; omega)
              obtain rfl := Option.some.inj H
              have hcz89_0 : wr.cell? ⟨gb316, 0, none⟩ = some (.int .i64 a0_0) := (blk_cell BK316.out 0).trans rfl
              have hcz89_1 : wr.cell? ⟨gb316, 1, none⟩ = some (.int .i64 a0_1) := (blk_cell BK316.out 1).trans rfl
              have hcz89_2 : wr.cell? ⟨gb316, 2, none⟩ = some (.int .i64 a0_2) := (blk_cell BK316.out 2).trans rfl
              have hcz89_3 : wr.cell? ⟨gb316, 3, none⟩ = some (.string a0_3) := (blk_cell BK316.out 3).trans rfl
              have hcz89_4 : wr.cell? ⟨gb316, 4, none⟩ = some (.slice A0_4 l0_4.length c0_4) := (blk_cell BK316.out 4).trans rfl
              have hcz89_5 : wr.cell? ⟨gb316, 5, none⟩ = some (.slice A0_5 l0_5.length c0_5) := (blk_cell BK316.out 5).trans rfl
              have hfz89_0 := blk_frozen BK316.out 0
              have hfz89_1 := blk_frozen BK316.out 1
              have hfz89_2 := blk_frozen BK316.out 2
              have hfz89_3 := blk_frozen BK316.out 3
              have hfz89_4 := blk_frozen BK316.out 4
              have hfz89_5 := blk_frozen BK316.out 5
              go_wp2
              go_ret
              exact ⟨qGVals6_, qGVals0_⟩
         ·rw [if_neg c67] at H
          have c67b0 : (a0_0 == 6) = false := beq_eq_false_iff_ne.mpr c67
          have c67b1 : (a0_0 != 6) = true := bne_iff_ne.mpr c67
          obtain rfl := Option.some.inj H
          go_wp2
          go_ret
          exact ⟨qGVals6_, qGVals0_⟩

theorem impl_valueOk.all : ∀ k, OkV k := by
 intro k
 induction k using Nat.strongRecOn with
 | _ k ih => exact impl_valueOk.calls0 k (fun k1 h => conV.calls k1 (fun k2 h2 => ih k2 (by omega)))
theorem impl_valueOk.calls (k : Nat) (a0_0 : Int) (a0_1 : Int) (a0_2 : Int) (a0_3 : ByteArray) (A0_4 : Option Addr) (c0_4 : Nat) (l0_4 : List (S28)) (A0_5 : Option Addr) (c0_5 : Nat) (l0_5 : List ByteArray) (a1 : Int) (r : Bool) (w : World) (hr0_4 : Kd.C k28 w A0_4 l0_4.length l0_4) (hc0_4 : l0_4.length ≤ c0_4) (hr0_5 : Kd.C Kd.string w A0_5 l0_5.length l0_5) (hc0_5 : l0_5.length ≤ c0_5) (hG : LaidG 2 w) (h : impl_valueOk.f k a0_0 a0_1 a0_2 a0_3 l0_4 l0_5 a1 = some r) :
  Calls Tryd.prog 60 #[.agg #[.int .i64 a0_0, .int .i64 a0_1, .int .i64 a0_2, .string a0_3, .slice A0_4 l0_4.length c0_4, .slice A0_5 l0_5.length c0_5], .int .i64 a1] w fun e w' => e = .returned (.bool r) ∧ Below w.heap.size w w' := impl_valueOk.all k a0_0 a0_1 a0_2 a0_3 A0_4 c0_4 l0_4 A0_5 c0_5 l0_5 a1 r w hr0_4 hc0_4 hr0_5 hc0_5 hG h

end Go.Proofs.YtebcepbamlokcaaDoor.Q
namespace Go.Proofs.YtebcepbamlokcaaDoor.Q
open Go.RowKit Go.Proofs.YtebcepbamlokcaaDoorW.PrintWords Go.Proofs.YtebcepbamlokcaaDoorW.PrintLast
set_option linter.unusedVariables false
set_option linter.unusedSimpArgs false

theorem qQx5s0_ {P : Prop} (h : P := by repeat (first | (with_reducible first | exact HB.out | apply below_alloc | apply pw_below_drewN | apply below_drew1) | exact HB.out)) : P := h
theorem qQx5s1_ {P : Prop} (h : P := by repeat (first | (with_reducible first | exact HB.out | apply below_alloc | apply pw_below_drewN | apply below_drew1 | refine below_set ?_ GE110.out) | exact HB.out)) : P := h
theorem qQx5s2_ {P : Prop} (h : P := by repeat (first | (with_reducible first | exact HB.out | apply below_alloc | apply pw_below_drewN | apply below_drew1 | refine below_set ?_ GE106.out) | exact HB.out)) : P := h
theorem qQx5s3_ {P : Prop} (h : P := by repeat (first | (with_reducible first | exact HB.out | apply below_alloc | apply pw_below_drewN | apply below_drew1 | refine below_set ?_ GE106.out | refine below_set ?_ GE108.out) | exact HB.out)) : P := h
theorem qQx5s4_ {P : Prop} (h : P := by exact (blk_below (g := gb110) (o := .cells #[.int .i64 a0_0, .int .i64 a0_1, .int .i64 a0_2, .string a0_3, .slice A0_4 l0_4.length c0_4, .slice A0_5 l0_5.length c0_5] 28 (0, 0)) (by (with_reducible repeat (first | refine blk_drewN ?_ _ | refine blk_drew ?_ | refine blk_alloc ?_ _)); exact BK110.out) hb)) : P := h
theorem qQx5s5_ {P : Prop} (h : P := by (with_reducible repeat (first | refine blk_drewN ?_ _ | refine blk_drew ?_ | refine blk_alloc ?_ _)); exact BK106.out) : P := h
theorem qQx5s6_ {P : Prop} (h : P := by repeat (first | exact (Kd.C_below HR0_4.out HB.out) | (with_reducible refine Kd.C_alloc ?_ _) | (with_reducible refine Kd.C_drewN ?_ _) | (with_reducible refine Kd.C_drew ?_))) : P := h
theorem qQx5s7_ {P : Prop} (h : P := by repeat (first | exact (Kd.C_below HR0_5.out HB.out) | (with_reducible refine Kd.C_alloc ?_ _) | (with_reducible refine Kd.C_drewN ?_ _) | (with_reducible refine Kd.C_drew ?_))) : P := h
theorem qQx5s8_ {P : Prop} (h : P := by (try simp only [List.map_toArray, List.map_cons, List.map_nil]); first | done | rfl | (simp only [List.length_drop, List.length_take]; rfl)) : P := h
theorem qQx5s9_ {P : Prop} (h : P := by first | rfl | (simp [errW_none, errW_some] <;> rfl) | (simp [*, errW_none, errW_some] <;> rfl)) : P := h
theorem qQx5s10_ {P : Prop} (h : P := by first | rfl | (simp; done) | (simp [*]; done)) : P := h
theorem qQx5s11_ {P : Prop} (h : P := by first | (go_simp; done) | (go_simp; rfl)) : P := h
mutual
def impl_ValueSize.l0 : Nat → Int → List (S28) → Int → Int → Option (Int)
 | 0, _, _, _, _ => none
 | k + 1, x3, x7, x8, x9 => if x9 < x8 then (if 0 ≤ x9 then (if x9 < (x7.length : Int) then ((impl_ValueSize.f k ((rd_T28 x7 x9).f0) ((rd_T28 x7 x9).f1.f0) ((rd_T28 x7 x9).f1.f1) ((rd_T28 x7 x9).f2) ((rd_T28 x7 x9).f3) ((rd_T28 x7 x9).f4)).bind fun t109 => (impl_ValueSize.l0 k (wrap64 (x3 + t109)) x7 x8 (wrap64 (x9 + 1)))) else (none)) else (none)) else (some x3)
def impl_ValueSize.f : Nat → Int → Int → Int → ByteArray → List (S28) → List ByteArray → Option (Int)
 | 0, _, _, _, _, _, _ => none
 | k + 1, a0_0, a0_1, a0_2, a0_3, l0_4, l0_5 => impl_ValueSize.l0 k 1 l0_4 (l0_4.length : Int) 0
end
theorem impl_ValueSize.mono_l : ∀ k, (∀ y0 y1 y2 y3 y4 y5, LeO (impl_ValueSize.f k y0 y1 y2 y3 y4 y5) (impl_ValueSize.f (k + 1) y0 y1 y2 y3 y4 y5)) ∧ (∀ y0 y1 y2 y3, LeO (impl_ValueSize.l0 k y0 y1 y2 y3) (impl_ValueSize.l0 (k + 1) y0 y1 y2 y3))
 | 0 => ⟨fun _ _ _ _ _ _ r h => by simp [impl_ValueSize.f] at h, fun _ _ _ _ r h => by simp [impl_ValueSize.l0] at h⟩
 | k + 1 => by
  obtain ⟨ih0, ih1⟩ := impl_ValueSize.mono_l k
  refine ⟨?_, ?_⟩
  ·intro y0 y1 y2 y3 y4 y5
   unfold impl_ValueSize.f
   repeat' first
   | (with_reducible exact ih0 _ _ _ _ _ _)
   | (with_reducible exact ih1 _ _ _ _)
   | (with_reducible exact LeO.refl _)
   | (with_reducible exact LeO.none _)
   | (with_reducible refine LeO.ite ?_ ?_)
   | (with_reducible refine LeO.bind ?_ (fun _ => ?_))
   | exact ih0 _ _ _ _ _ _
   | exact ih1 _ _ _ _
   | exact LeO.none _
   | refine LeO.ite ?_ ?_
   | refine LeO.bind ?_ (fun _ => ?_)
  ·intro y0 y1 y2 y3
   unfold impl_ValueSize.l0
   repeat' first
   | (with_reducible exact ih0 _ _ _ _ _ _)
   | (with_reducible exact ih1 _ _ _ _)
   | (with_reducible exact LeO.refl _)
   | (with_reducible exact LeO.none _)
   | (with_reducible refine LeO.ite ?_ ?_)
   | (with_reducible refine LeO.bind ?_ (fun _ => ?_))
   | exact ih0 _ _ _ _ _ _
   | exact ih1 _ _ _ _
   | exact LeO.none _
   | refine LeO.ite ?_ ?_
   | refine LeO.bind ?_ (fun _ => ?_)
theorem impl_ValueSize.mono : ∀ a0 a1 a2 a3 a4 a5 k, LeO (impl_ValueSize.f k a0 a1 a2 a3 a4 a5) (impl_ValueSize.f (k + 1) a0 a1 a2 a3 a4 a5) := by
 intro a0 a1 a2 a3 a4 a5 k
 obtain ⟨ih0, ih1⟩ := impl_ValueSize.mono_l k
 exact ih0 a0 a1 a2 a3 a4 a5
set_option maxHeartbeats 8000000 in
set_option maxRecDepth 100000 in
theorem impl_ValueSize.calls (k : Nat) : ∀ (a0_0 : Int) (a0_1 : Int) (a0_2 : Int) (a0_3 : ByteArray) (A0_4 : Option Addr) (c0_4 : Nat) (l0_4 : List (S28)) (A0_5 : Option Addr) (c0_5 : Nat) (l0_5 : List ByteArray) (r : Int) (w : World) (hr0_4 : Kd.C k28 w A0_4 l0_4.length l0_4) (hc0_4 : l0_4.length ≤ c0_4) (hr0_5 : Kd.C Kd.string w A0_5 l0_5.length l0_5) (hc0_5 : l0_5.length ≤ c0_5) (h : impl_ValueSize.f k a0_0 a0_1 a0_2 a0_3 l0_4 l0_5 = some r),
  Calls Tryd.prog 61 #[.agg #[.int .i64 a0_0, .int .i64 a0_1, .int .i64 a0_2, .string a0_3, .slice A0_4 l0_4.length c0_4, .slice A0_5 l0_5.length c0_5]] w fun e w' => e = .returned (.int .i64 r) ∧ Below w.heap.size w w' := by
 induction k using Nat.strongRecOn with
 | _ k ih =>
 intro a0_0 a0_1 a0_2 a0_3 A0_4 c0_4 l0_4 A0_5 c0_5 l0_5 r w hr0_4 hc0_4 hr0_5 hc0_5 h
 cases k with
 | zero => exact absurd h (by simp [impl_ValueSize.f])
 | succ k =>
 simp only [impl_ValueSize.f] at h
 have hu28 := Tryd.underlying28
 have HR0_4 := Aside0.mk hr0_4
 have HC0_4 := Aside0.mk hc0_4
 clear hr0_4 hc0_4
 have HR0_5 := Aside0.mk hr0_5
 have HC0_5 := Aside0.mk hc0_5
 clear hr0_5 hc0_5
 have HB := Aside0.mk (Below.refl w.heap.size w)
 have H : (impl_ValueSize.l0 k 1 l0_4 (l0_4.length : Int) 0) = some r := h
 clear h
 have H' := Aside0.mk H
 clear H
 go_enter Tryd.func61, Tryd.ntmps61
 go_wp2_with (first | ((with_reducible refine gate_dst (N := 1) rfl ?_); refine box_event ?hg (N := 1) ?hd (cs := #[.int .i64 a0_0, .int .i64 a0_1, .int .i64 a0_2, .string a0_3, .slice A0_4 l0_4.length c0_4, .slice A0_5 l0_5.length c0_5]) (t := 28) ?hr ?_; (case hd => rfl); (case hg => rfl); (case hr => exact qQx5s11_); intro gb106 hg w_ hbox hb; have n0_ := Aside0.mk (below_step qQx5s0_ hb); have n1_ := Aside0.mk (hbox); have n2_ := Aside0.mk ((by rw [hg]; exact (below_size qQx5s0_) : w.heap.size ≤ gb106)); have n3_ := Aside0.mk ((by rw [hg]; exact (below_size qQx5s0_) : w.heap.size ≤ gb106)); clear HB; have HB := n0_; have BK106 := n1_; have GW106 := n2_; have GE106 := n3_; clear n0_ n1_ n2_ n3_ hb hbox hg; have hcz3_0 : w_.cell? ⟨gb106, 0, none⟩ = some (.int .i64 a0_0) := (blk_cell BK106.out 0).trans rfl; have hcz3_1 : w_.cell? ⟨gb106, 1, none⟩ = some (.int .i64 a0_1) := (blk_cell BK106.out 1).trans rfl; have hcz3_2 : w_.cell? ⟨gb106, 2, none⟩ = some (.int .i64 a0_2) := (blk_cell BK106.out 2).trans rfl; have hcz3_3 : w_.cell? ⟨gb106, 3, none⟩ = some (.string a0_3) := (blk_cell BK106.out 3).trans rfl; have hcz3_4 : w_.cell? ⟨gb106, 4, none⟩ = some (.slice A0_4 l0_4.length c0_4) := (blk_cell BK106.out 4).trans rfl; have hcz3_5 : w_.cell? ⟨gb106, 5, none⟩ = some (.slice A0_5 l0_5.length c0_5) := (blk_cell BK106.out 5).trans rfl; have hfz3_0 := blk_frozen BK106.out 0; have hfz3_1 := blk_frozen BK106.out 1; have hfz3_2 := blk_frozen BK106.out 2; have hfz3_3 := blk_frozen BK106.out 3; have hfz3_4 := blk_frozen BK106.out 4; have hfz3_5 := blk_frozen BK106.out 5))
 go_loopg [3, 9] k (fun kq v3 v9 w' => ∃ (x3_1 : Int) (x9_1 : Int), v3 = .int .i64 x3_1 ∧ v9 = .int .i64 x9_1 ∧ Aside0 (impl_ValueSize.l0 kq x3_1 l0_4 (l0_4.length : Int) x9_1 = some r) ∧ Aside0 (kq ≤ k) ∧ Aside0 (w'.heap[gb106]? = some (.cells #[.int .i64 a0_0, .int .i64 a0_1, .int .i64 a0_2, .string a0_3, (.slice A0_4 l0_4.length c0_4), (.slice A0_5 l0_5.length c0_5)] 28 (0, 0))) ∧ Aside0 (Below w.heap.size w w'))
 case atStart => exact ⟨(1), (0), qQx5s10_, qQx5s10_, H', ⟨Nat.le_refl _⟩, ⟨qQx5s5_⟩, ⟨qQx5s2_⟩⟩
 case round =>
  clear H'
  try clear p2
  try clear hcz3_0
  try clear hcz3_1
  try clear hcz3_2
  try clear hcz3_3
  try clear hcz3_4
  try clear hcz3_5
  try clear hfz3_0
  try clear hfz3_1
  try clear hfz3_2
  try clear hfz3_3
  try clear hfz3_4
  try clear hfz3_5
  obtain ⟨x3_1, x9_1, rfl, rfl, HA, HK1, BK106, HB⟩ := hrel
  cases gk with
  | zero => exact absurd HA.out (by simp [impl_ValueSize.l0])
  | succ k1 =>
   have H := HA.out
   clear HA
   simp only [impl_ValueSize.l0] at H
   by_cases c4 : x9_1 < (l0_4.length : Int)
   ·rw [if_pos c4] at H
    have c4b0 : decide (x9_1 < (l0_4.length : Int)) = true := decide_eq_true c4
    clear c4
    by_cases c5 : 0 ≤ x9_1
    ·rw [if_pos c5] at H
     have c5b0 : decide (0 ≤ x9_1) = true := decide_eq_true c5
     have c5q := c5
     clear c5
     by_cases c6 : x9_1 < (l0_4.length : Int)
     ·rw [if_pos c6] at H
      have c6b0 : decide (x9_1 < (l0_4.length : Int)) = true := decide_eq_true c6
      clear c6
      replace H := Option.bind_eq_some_iff.mp H
      obtain ⟨t109, A70, H⟩ := H
      replace H : (impl_ValueSize.l0 k1 (wrap64 (x3_1 + t109)) l0_4 (l0_4.length : Int) (wrap64 (x9_1 + 1))) = some r := H
      have A7 := Aside0.mk A70
      clear A70
      have H' := Aside0.mk H
      clear H
      have p107 : 0 ≤ (x9_1 : Int) := of_decide_eq_true (by first | (with_reducible assumption) | assumption)
      have q107 : x9_1 < (l0_4.length : Int) := of_decide_eq_true (by first | (with_reducible assumption) | assumption)
      obtain ⟨ad107, A107_4, c107_4, A107_5, c107_5, e107, hx107_0, hx107_1, hx107_2, hx107_3, hx107_4, hx107_5, hl107_4, hi107_4, hl107_5, hi107_5⟩ := at_T28 HR0_4.out x9_1 p107 q107
      cases e107
      replace hx107_0 := (HB.out.cell (World.block_lt_of_cell? w _ hx107_0)).trans hx107_0
      replace hx107_1 := (HB.out.cell (World.block_lt_of_cell? w _ hx107_1)).trans hx107_1
      replace hx107_2 := (HB.out.cell (World.block_lt_of_cell? w _ hx107_2)).trans hx107_2
      replace hx107_3 := (HB.out.cell (World.block_lt_of_cell? w _ hx107_3)).trans hx107_3
      replace hx107_4 := (HB.out.cell (World.block_lt_of_cell? w _ hx107_4)).trans hx107_4
      replace hx107_5 := (HB.out.cell (World.block_lt_of_cell? w _ hx107_5)).trans hx107_5
      have HR107_4 := Aside0.mk hi107_4
      have HC107_4 := Aside0.mk hl107_4
      clear hi107_4 hl107_4
      have HR107_5 := Aside0.mk hi107_5
      have HC107_5 := Aside0.mk hl107_5
      clear hi107_5 hl107_5
      replace p107 := eq_true p107
      replace q107 := eq_true q107
      go_wp2_with (first | ((with_reducible refine gate_dst (N := 5) rfl ?_); refine box_event ?hg (N := 5) ?hd (cs := #[.int .i64 0, .int .i64 0, .int .i64 0, .string (⟨#[]⟩ : ByteArray), .slice none 0 0, .slice none 0 0]) (t := 28) ?hr ?_; (case hd => rfl); (case hg => rfl); (case hr => exact qQx5s11_); intro gb108 hg w_ hbox hb; have n0_ := Aside0.mk (blk_below (g := gb106) (o := .cells #[.int .i64 a0_0, .int .i64 a0_1, .int .i64 a0_2, .string a0_3, .slice (some ad107) l0_4.length c0_4, .slice A0_5 l0_5.length c0_5] 28 (0, 0)) qQx5s5_ hb); have n1_ := Aside0.mk (below_step qQx5s2_ hb); have n2_ := Aside0.mk (hbox); have n3_ := Aside0.mk ((by rw [hg]; exact (below_size qQx5s2_) : w.heap.size ≤ gb108)); have n4_ := Aside0.mk ((by rw [hg]; exact (below_size qQx5s2_) : w.heap.size ≤ gb108)); have n5_ := Aside0.mk ((by rw [hg]; exact Nat.ne_of_lt (blk_lt (g := gb106) (o := .cells #[.int .i64 a0_0, .int .i64 a0_1, .int .i64 a0_2, .string a0_3, .slice (some ad107) l0_4.length c0_4, .slice A0_5 l0_5.length c0_5] 28 (0, 0)) qQx5s5_) : gb106 ≠ gb108)); have n6_ := Aside0.mk ((by rw [hg]; exact Nat.ne_of_gt (blk_lt (g := gb106) (o := .cells #[.int .i64 a0_0, .int .i64 a0_1, .int .i64 a0_2, .string a0_3, .slice (some ad107) l0_4.length c0_4, .slice A0_5 l0_5.length c0_5] 28 (0, 0)) qQx5s5_) : gb108 ≠ gb106)); clear BK106 HB; have BK106 := n0_; have HB := n1_; have BK108 := n2_; have GW108 := n3_; have GE108 := n4_; have NB106_108 := n5_; have NB108_106 := n6_; clear n0_ n1_ n2_ n3_ n4_ n5_ n6_ hb hbox hg; have hnb9 := NB108_106.out; have hnc9 := NB106_108.out; have hcz10_0 : w_.cell? ⟨gb108, 0, none⟩ = some (.int .i64 0) := (blk_cell BK108.out 0).trans rfl; have hcz10_1 : w_.cell? ⟨gb108, 1, none⟩ = some (.int .i64 0) := (blk_cell BK108.out 1).trans rfl; have hcz10_2 : w_.cell? ⟨gb108, 2, none⟩ = some (.int .i64 0) := (blk_cell BK108.out 2).trans rfl; have hcz10_3 : w_.cell? ⟨gb108, 3, none⟩ = some (.string (⟨#[]⟩ : ByteArray)) := (blk_cell BK108.out 3).trans rfl; have hcz10_4 : w_.cell? ⟨gb108, 4, none⟩ = some (.slice none 0 0) := (blk_cell BK108.out 4).trans rfl; have hcz10_5 : w_.cell? ⟨gb108, 5, none⟩ = some (.slice none 0 0) := (blk_cell BK108.out 5).trans rfl; have hfz10_0 := blk_frozen BK108.out 0; have hfz10_1 := blk_frozen BK108.out 1; have hfz10_2 := blk_frozen BK108.out 2; have hfz10_3 := blk_frozen BK108.out 3; have hfz10_4 := blk_frozen BK108.out 4; have hfz10_5 := blk_frozen BK108.out 5) | ((with_reducible refine gate_callee (f := 61) rfl ?_); refine goesL_ (some 15) rfl rfl Tryd.func61 (by kernel_rfl) rfl #[.agg #[.int .i64 ((rd_T28 l0_4 x9_1).f0), .int .i64 ((rd_T28 l0_4 x9_1).f1.f0), .int .i64 ((rd_T28 l0_4 x9_1).f1.f1), .string ((rd_T28 l0_4 x9_1).f2), .slice A107_4 ((rd_T28 l0_4 x9_1).f3).length c107_4, .slice A107_5 ((rd_T28 l0_4 x9_1).f4).length c107_5]] rfl qQx5s8_ ?_; (with_reducible refine (ih k1 (by have := HK1.out; omega) ((rd_T28 l0_4 x9_1).f0) ((rd_T28 l0_4 x9_1).f1.f0) ((rd_T28 l0_4 x9_1).f1.f1) ((rd_T28 l0_4 x9_1).f2) _ _ ((rd_T28 l0_4 x9_1).f3) _ _ ((rd_T28 l0_4 x9_1).f4) t109 _ ?side1 ?side2 ?side3 ?side4 A7.out).mono ?_); (case side1 => exact (by exact Kd.C_below HR107_4.out qQx5s3_)); (case side2 => exact (by exact HC107_4.out)); (case side3 => exact (by exact Kd.C_below HR107_5.out qQx5s3_)); (case side4 => exact (by exact HC107_5.out)); rintro e w_ ⟨rfl, hb⟩; refine ⟨_, rfl, ?_⟩; have n0_ := Aside0.mk (blk_below (g := gb106) (o := .cells #[.int .i64 a0_0, .int .i64 a0_1, .int .i64 a0_2, .string a0_3, .slice (some ad107) l0_4.length c0_4, .slice A0_5 l0_5.length c0_5] 28 (0, 0)) (by (with_reducible repeat (first | refine blk_drewN ?_ _ | refine blk_drew ?_ | refine blk_alloc ?_ _)); refine blk_far ?_ NB106_108.out _; (with_reducible repeat (first | refine blk_drewN ?_ _ | refine blk_drew ?_ | refine blk_alloc ?_ _)); refine blk_far ?_ NB106_108.out _; (with_reducible repeat (first | refine blk_drewN ?_ _ | refine blk_drew ?_ | refine blk_alloc ?_ _)); refine blk_far ?_ NB106_108.out _; (with_reducible repeat (first | refine blk_drewN ?_ _ | refine blk_drew ?_ | refine blk_alloc ?_ _)); refine blk_far ?_ NB106_108.out _; (with_reducible repeat (first | refine blk_drewN ?_ _ | refine blk_drew ?_ | refine blk_alloc ?_ _)); refine blk_far ?_ NB106_108.out _; (with_reducible repeat (first | refine blk_drewN ?_ _ | refine blk_drew ?_ | refine blk_alloc ?_ _)); refine blk_far ?_ NB106_108.out _; (with_reducible repeat (first | refine blk_drewN ?_ _ | refine blk_drew ?_ | refine blk_alloc ?_ _)); exact BK106.out) hb); have n1_ := Aside0.mk (blk_below (g := gb108) (o := .cells #[.int .i64 ((rd_T28 l0_4 x9_1).f0), .int .i64 ((rd_T28 l0_4 x9_1).f1.f0), .int .i64 ((rd_T28 l0_4 x9_1).f1.f1), .string ((rd_T28 l0_4 x9_1).f2), .slice A107_4 ((rd_T28 l0_4 x9_1).f3).length c107_4, .slice A107_5 ((rd_T28 l0_4 x9_1).f4).length c107_5] 28 (0, 0)) (by (with_reducible repeat (first | refine blk_drewN ?_ _ | refine blk_drew ?_ | refine blk_alloc ?_ _)); refine blk_put (cs := #[.int .i64 ((rd_T28 l0_4 x9_1).f0), .int .i64 ((rd_T28 l0_4 x9_1).f1.f0), .int .i64 ((rd_T28 l0_4 x9_1).f1.f1), .string ((rd_T28 l0_4 x9_1).f2), .slice A107_4 ((rd_T28 l0_4 x9_1).f3).length c107_4, .slice none 0 0]) ?_ 5 _ rfl; (with_reducible repeat (first | refine blk_drewN ?_ _ | refine blk_drew ?_ | refine blk_alloc ?_ _)); refine blk_put (cs := #[.int .i64 ((rd_T28 l0_4 x9_1).f0), .int .i64 ((rd_T28 l0_4 x9_1).f1.f0), .int .i64 ((rd_T28 l0_4 x9_1).f1.f1), .string ((rd_T28 l0_4 x9_1).f2), .slice none 0 0, .slice none 0 0]) ?_ 4 _ rfl; (with_reducible repeat (first | refine blk_drewN ?_ _ | refine blk_drew ?_ | refine blk_alloc ?_ _)); refine blk_put (cs := #[.int .i64 ((rd_T28 l0_4 x9_1).f0), .int .i64 ((rd_T28 l0_4 x9_1).f1.f0), .int .i64 ((rd_T28 l0_4 x9_1).f1.f1), .string (⟨#[]⟩ : ByteArray), .slice none 0 0, .slice none 0 0]) ?_ 3 _ rfl; (with_reducible repeat (first | refine blk_drewN ?_ _ | refine blk_drew ?_ | refine blk_alloc ?_ _)); refine blk_put (cs := #[.int .i64 ((rd_T28 l0_4 x9_1).f0), .int .i64 ((rd_T28 l0_4 x9_1).f1.f0), .int .i64 0, .string (⟨#[]⟩ : ByteArray), .slice none 0 0, .slice none 0 0]) ?_ 2 _ rfl; (with_reducible repeat (first | refine blk_drewN ?_ _ | refine blk_drew ?_ | refine blk_alloc ?_ _)); refine blk_put (cs := #[.int .i64 ((rd_T28 l0_4 x9_1).f0), .int .i64 0, .int .i64 0, .string (⟨#[]⟩ : ByteArray), .slice none 0 0, .slice none 0 0]) ?_ 1 _ rfl; (with_reducible repeat (first | refine blk_drewN ?_ _ | refine blk_drew ?_ | refine blk_alloc ?_ _)); refine blk_put (cs := #[.int .i64 0, .int .i64 0, .int .i64 0, .string (⟨#[]⟩ : ByteArray), .slice none 0 0, .slice none 0 0]) ?_ 0 _ rfl; (with_reducible repeat (first | refine blk_drewN ?_ _ | refine blk_drew ?_ | refine blk_alloc ?_ _)); exact BK108.out) hb); have n2_ := Aside0.mk (below_step qQx5s3_ hb); clear BK106 BK108 HB; have BK106 := n0_; have BK108 := n1_; have HB := n2_; clear n0_ n1_ n2_; (try clear hb); (try clear hb2); (try clear hk); (try clear hi)))
      go_roundg k1
      case measure => have := HK1.out; omega
      case rel => exact ⟨(wrap64 (x3_1 + t109)), (wrap64 (x9_1 + 1)), qQx5s10_, qQx5s10_, H', ⟨by have := HK1.out; omega⟩, ⟨qQx5s5_⟩, ⟨qQx5s3_⟩⟩
     ·rw [if_neg c6] at H
      exact absurd H (by simp)
    ·rw [if_neg c5] at H
     exact absurd H (by simp)
   ·rw [if_neg c4] at H
    have c4b0 : decide (x9_1 < (l0_4.length : Int)) = false := decide_eq_false c4
    clear c4
    obtain rfl := Option.some.inj H
    go_wp2
    go_ret
    exact ⟨qQx5s9_, qQx5s2_⟩

def impl_ValueOk.f (k : Nat) (a0_0 : Int) (a0_1 : Int) (a0_2 : Int) (a0_3 : ByteArray) (l0_4 : List (S28)) (l0_5 : List ByteArray) : Option (Bool) := (impl_valueOk.f k a0_0 a0_1 a0_2 a0_3 l0_4 l0_5 20).bind fun t111 => (if t111 = true then ((impl_ValueSize.f k a0_0 a0_1 a0_2 a0_3 l0_4 l0_5).bind fun t112 => (some (decide (t112 ≤ 200)))) else (some false))
theorem impl_ValueOk.mono : ∀ a0 a1 a2 a3 a4 a5 k, LeO (impl_ValueOk.f k a0 a1 a2 a3 a4 a5) (impl_ValueOk.f (k + 1) a0 a1 a2 a3 a4 a5) := by
 intro a0 a1 a2 a3 a4 a5 k
 unfold impl_ValueOk.f
 repeat' first
   | (with_reducible exact impl_ValueSize.mono _ _ _ _ _ _ _)
   | (with_reducible exact impl_valueOk.mono _ _ _ _ _ _ _ _)
   | (with_reducible exact LeO.refl _)
   | (with_reducible exact LeO.none _)
   | (with_reducible refine LeO.ite ?_ ?_)
   | (with_reducible refine LeO.bind ?_ (fun _ => ?_))
   | exact impl_ValueSize.mono _ _ _ _ _ _ _
   | exact impl_valueOk.mono _ _ _ _ _ _ _ _
   | exact LeO.none _
   | refine LeO.ite ?_ ?_
   | refine LeO.bind ?_ (fun _ => ?_)
set_option maxHeartbeats 8000000 in
set_option maxRecDepth 100000 in
theorem impl_ValueOk.calls (k : Nat) (a0_0 : Int) (a0_1 : Int) (a0_2 : Int) (a0_3 : ByteArray) (A0_4 : Option Addr) (c0_4 : Nat) (l0_4 : List (S28)) (A0_5 : Option Addr) (c0_5 : Nat) (l0_5 : List ByteArray) (r : Bool) (w : World) (hr0_4 : Kd.C k28 w A0_4 l0_4.length l0_4) (hc0_4 : l0_4.length ≤ c0_4) (hr0_5 : Kd.C Kd.string w A0_5 l0_5.length l0_5) (hc0_5 : l0_5.length ≤ c0_5) (hG : LaidG 2 w) (h : impl_ValueOk.f k a0_0 a0_1 a0_2 a0_3 l0_4 l0_5 = some r) :
  Calls Tryd.prog 21 #[.agg #[.int .i64 a0_0, .int .i64 a0_1, .int .i64 a0_2, .string a0_3, .slice A0_4 l0_4.length c0_4, .slice A0_5 l0_5.length c0_5]] w fun e w' => e = .returned (.bool r) ∧ Below w.heap.size w w' := by
 have hu28 := Tryd.underlying28
 have HR0_4 := Aside0.mk hr0_4
 have HC0_4 := Aside0.mk hc0_4
 clear hr0_4 hc0_4
 have HR0_5 := Aside0.mk hr0_5
 have HC0_5 := Aside0.mk hc0_5
 clear hr0_5 hc0_5
 have HGL := Aside0.mk hG
 clear hG
 have HB := Aside0.mk (Below.refl w.heap.size w)
 have H : ((impl_valueOk.f k a0_0 a0_1 a0_2 a0_3 l0_4 l0_5 20).bind fun t111 => (if t111 = true then ((impl_ValueSize.f k a0_0 a0_1 a0_2 a0_3 l0_4 l0_5).bind fun t112 => (some (decide (t112 ≤ 200)))) else (some false))) = some r := h
 clear h
 replace H := Option.bind_eq_some_iff.mp H
 obtain ⟨t111, A20, H⟩ := H
 replace H : (if t111 = true then ((impl_ValueSize.f k a0_0 a0_1 a0_2 a0_3 l0_4 l0_5).bind fun t112 => (some (decide (t112 ≤ 200)))) else (some false)) = some r := H
 have A2 := Aside0.mk A20
 clear A20
 by_cases c3 : t111 = true
 ·subst c3
  have H1 : ((impl_ValueSize.f k a0_0 a0_1 a0_2 a0_3 l0_4 l0_5).bind fun t112 => (some (decide (t112 ≤ 200)))) = some r := by rw [if_pos rfl] at H; exact H
  clear H
  have H := H1
  clear H1
  replace H := Option.bind_eq_some_iff.mp H
  obtain ⟨t112, A40, H⟩ := H
  replace H : (some (decide (t112 ≤ 200))) = some r := H
  have A4 := Aside0.mk A40
  clear A40
  obtain rfl := Option.some.inj H
  go_enter Tryd.func21, Tryd.ntmps21
  go_wp2_with (first | ((with_reducible refine gate_dst (N := 1) rfl ?_); refine box_event ?hg (N := 1) ?hd (cs := #[.int .i64 a0_0, .int .i64 a0_1, .int .i64 a0_2, .string a0_3, .slice A0_4 l0_4.length c0_4, .slice A0_5 l0_5.length c0_5]) (t := 28) ?hr ?_; (case hd => rfl); (case hg => rfl); (case hr => exact qQx5s11_); intro gb110 hg w_ hbox hb; have n0_ := Aside0.mk (below_step qQx5s0_ hb); have n1_ := Aside0.mk (hbox); have n2_ := Aside0.mk ((by rw [hg]; exact (below_size qQx5s0_) : w.heap.size ≤ gb110)); have n3_ := Aside0.mk ((by rw [hg]; exact (below_size qQx5s0_) : w.heap.size ≤ gb110)); clear HB; have HB := n0_; have BK110 := n1_; have GW110 := n2_; have GE110 := n3_; clear n0_ n1_ n2_ n3_ hb hbox hg; have hcz6_0 : w_.cell? ⟨gb110, 0, none⟩ = some (.int .i64 a0_0) := (blk_cell BK110.out 0).trans rfl; have hcz6_1 : w_.cell? ⟨gb110, 1, none⟩ = some (.int .i64 a0_1) := (blk_cell BK110.out 1).trans rfl; have hcz6_2 : w_.cell? ⟨gb110, 2, none⟩ = some (.int .i64 a0_2) := (blk_cell BK110.out 2).trans rfl; have hcz6_3 : w_.cell? ⟨gb110, 3, none⟩ = some (.string a0_3) := (blk_cell BK110.out 3).trans rfl; have hcz6_4 : w_.cell? ⟨gb110, 4, none⟩ = some (.slice A0_4 l0_4.length c0_4) := (blk_cell BK110.out 4).trans rfl; have hcz6_5 : w_.cell? ⟨gb110, 5, none⟩ = some (.slice A0_5 l0_5.length c0_5) := (blk_cell BK110.out 5).trans rfl; have hfz6_0 := blk_frozen BK110.out 0; have hfz6_1 := blk_frozen BK110.out 1; have hfz6_2 := blk_frozen BK110.out 2; have hfz6_3 := blk_frozen BK110.out 3; have hfz6_4 := blk_frozen BK110.out 4; have hfz6_5 := blk_frozen BK110.out 5) | ((with_reducible refine gate_callee (f := 60) rfl ?_); refine goesL_ (some 4) rfl rfl Tryd.func60 (by kernel_rfl) rfl #[.agg #[.int .i64 a0_0, .int .i64 a0_1, .int .i64 a0_2, .string a0_3, .slice A0_4 l0_4.length c0_4, .slice A0_5 l0_5.length c0_5], .int .i64 20] rfl qQx5s8_ ?_; (with_reducible refine (impl_valueOk.calls k a0_0 a0_1 a0_2 a0_3 _ _ l0_4 _ _ l0_5 20 true _ ?side1 ?side2 ?side3 ?side4 ?side5 A2.out).mono ?_); (case side1 => exact qQx5s6_); (case side2 => exact (by exact HC0_4.out)); (case side3 => exact qQx5s7_); (case side4 => exact (by exact HC0_5.out)); (case side5 => exact (by exact LaidG.below (m := 2) (by decide) HGL.out qQx5s1_)); rintro e w_ ⟨rfl, hb⟩; refine ⟨_, rfl, ?_⟩; have n0_ := Aside0.mk qQx5s4_; have n1_ := Aside0.mk (below_step qQx5s1_ hb); clear BK110 HB; have BK110 := n0_; have HB := n1_; clear n0_ n1_; (try clear hb); (try clear hb2); (try clear hk); (try clear hi); have hcz8_0 : w_.cell? ⟨gb110, 0, none⟩ = some (.int .i64 a0_0) := (blk_cell BK110.out 0).trans rfl; have hcz8_1 : w_.cell? ⟨gb110, 1, none⟩ = some (.int .i64 a0_1) := (blk_cell BK110.out 1).trans rfl; have hcz8_2 : w_.cell? ⟨gb110, 2, none⟩ = some (.int .i64 a0_2) := (blk_cell BK110.out 2).trans rfl; have hcz8_3 : w_.cell? ⟨gb110, 3, none⟩ = some (.string a0_3) := (blk_cell BK110.out 3).trans rfl; have hcz8_4 : w_.cell? ⟨gb110, 4, none⟩ = some (.slice A0_4 l0_4.length c0_4) := (blk_cell BK110.out 4).trans rfl; have hcz8_5 : w_.cell? ⟨gb110, 5, none⟩ = some (.slice A0_5 l0_5.length c0_5) := (blk_cell BK110.out 5).trans rfl; have hfz8_0 := blk_frozen BK110.out 0; have hfz8_1 := blk_frozen BK110.out 1; have hfz8_2 := blk_frozen BK110.out 2; have hfz8_3 := blk_frozen BK110.out 3; have hfz8_4 := blk_frozen BK110.out 4; have hfz8_5 := blk_frozen BK110.out 5) | (go_at_call 61; (with_reducible refine (impl_ValueSize.calls k a0_0 a0_1 a0_2 a0_3 _ _ l0_4 _ _ l0_5 t112 _ ?side1 ?side2 ?side3 ?side4 A4.out).mono ?_); (case side1 => exact qQx5s6_); (case side2 => exact (by exact HC0_4.out)); (case side3 => exact qQx5s7_); (case side4 => exact (by exact HC0_5.out)); rintro e w_ ⟨rfl, hb⟩; have n0_ := Aside0.mk qQx5s4_; have n1_ := Aside0.mk (below_step qQx5s1_ hb); clear BK110 HB; have BK110 := n0_; have HB := n1_; clear n0_ n1_; (try clear hb); (try clear hb2); (try clear hk); (try clear hi)))
  go_ret
  exact ⟨qQx5s9_, qQx5s1_⟩
 ·replace c3 := Bool.eq_false_iff.mpr c3
  subst c3
  have H1 : (some false) = some r := by rw [if_neg (show ¬ (false = true) by decide)] at H; exact H
  clear H
  have H := H1
  clear H1
  obtain rfl := Option.some.inj H
  go_enter Tryd.func21, Tryd.ntmps21
  go_wp2_with (first | ((with_reducible refine gate_dst (N := 1) rfl ?_); refine box_event ?hg (N := 1) ?hd (cs := #[.int .i64 a0_0, .int .i64 a0_1, .int .i64 a0_2, .string a0_3, .slice A0_4 l0_4.length c0_4, .slice A0_5 l0_5.length c0_5]) (t := 28) ?hr ?_; (case hd => rfl); (case hg => rfl); (case hr => exact qQx5s11_); intro gb110 hg w_ hbox hb; have n0_ := Aside0.mk (below_step qQx5s0_ hb); have n1_ := Aside0.mk (hbox); have n2_ := Aside0.mk ((by rw [hg]; exact (below_size qQx5s0_) : w.heap.size ≤ gb110)); have n3_ := Aside0.mk ((by rw [hg]; exact (below_size qQx5s0_) : w.heap.size ≤ gb110)); clear HB; have HB := n0_; have BK110 := n1_; have GW110 := n2_; have GE110 := n3_; clear n0_ n1_ n2_ n3_ hb hbox hg; have hcz11_0 : w_.cell? ⟨gb110, 0, none⟩ = some (.int .i64 a0_0) := (blk_cell BK110.out 0).trans rfl; have hcz11_1 : w_.cell? ⟨gb110, 1, none⟩ = some (.int .i64 a0_1) := (blk_cell BK110.out 1).trans rfl; have hcz11_2 : w_.cell? ⟨gb110, 2, none⟩ = some (.int .i64 a0_2) := (blk_cell BK110.out 2).trans rfl; have hcz11_3 : w_.cell? ⟨gb110, 3, none⟩ = some (.string a0_3) := (blk_cell BK110.out 3).trans rfl; have hcz11_4 : w_.cell? ⟨gb110, 4, none⟩ = some (.slice A0_4 l0_4.length c0_4) := (blk_cell BK110.out 4).trans rfl; have hcz11_5 : w_.cell? ⟨gb110, 5, none⟩ = some (.slice A0_5 l0_5.length c0_5) := (blk_cell BK110.out 5).trans rfl; have hfz11_0 := blk_frozen BK110.out 0; have hfz11_1 := blk_frozen BK110.out 1; have hfz11_2 := blk_frozen BK110.out 2; have hfz11_3 := blk_frozen BK110.out 3; have hfz11_4 := blk_frozen BK110.out 4; have hfz11_5 := blk_frozen BK110.out 5) | ((with_reducible refine gate_callee (f := 60) rfl ?_); refine goesL_ (some 4) rfl rfl Tryd.func60 (by kernel_rfl) rfl #[.agg #[.int .i64 a0_0, .int .i64 a0_1, .int .i64 a0_2, .string a0_3, .slice A0_4 l0_4.length c0_4, .slice A0_5 l0_5.length c0_5], .int .i64 20] rfl qQx5s8_ ?_; (with_reducible refine (impl_valueOk.calls k a0_0 a0_1 a0_2 a0_3 _ _ l0_4 _ _ l0_5 20 false _ ?side1 ?side2 ?side3 ?side4 ?side5 A2.out).mono ?_); (case side1 => exact qQx5s6_); (case side2 => exact (by exact HC0_4.out)); (case side3 => exact qQx5s7_); (case side4 => exact (by exact HC0_5.out)); (case side5 => exact (by exact LaidG.below (m := 2) (by decide) HGL.out qQx5s1_)); rintro e w_ ⟨rfl, hb⟩; refine ⟨_, rfl, ?_⟩; have n0_ := Aside0.mk qQx5s4_; have n1_ := Aside0.mk (below_step qQx5s1_ hb); clear BK110 HB; have BK110 := n0_; have HB := n1_; clear n0_ n1_; (try clear hb); (try clear hb2); (try clear hk); (try clear hi)))
  go_ret
  exact ⟨qQx5s9_, qQx5s1_⟩

end Go.Proofs.YtebcepbamlokcaaDoor.Q
