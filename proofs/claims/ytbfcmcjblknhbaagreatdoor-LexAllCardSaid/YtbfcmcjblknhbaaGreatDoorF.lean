/-
  Part F of the proof. What is proved by the whole: the statement that the claim names, with no condition. This part: lemmas.
-/
import Derived.Test.YtbfcmcjblknhbaaGreatDoorE
import Derived.Shelf.Strings.Fields
import Derived.Shelf.Strconv.ParseIntPublic10
import Derived.Test.YtbfcmcjblknhbaaGreatDoorChecked
set_option linter.unusedSimpArgs false
set_option linter.unusedVariables false

section
/-
  DERIVED: THE SHELF's CONTRACTS AT THIS DUMP, IN PLAIN WORDS (tools/lay-plain.mjs out of 'TryzShelf.lean', which tools/lay-shelf.mjs wrote): THE SAME DECLARATIONS UNDER THE SAME NAMES: 'import', 'namespace', 'open', 'def', 'theorem' AND NOTHING ELSE: no command of the shelf's: FOR A HAND-IN. Each laying: the table of numbers ('.._ren') and one theorem, a field a fact of the dump's own or the kernel's comparison; each contract: ONE APPLICATION.
-/
namespace Go.Proofs
open Go.Shelf
def Tryz.laysC174_ren : Go.Shelf.Ren := ⟨fun | 174 => 97 | 247 => 128 | 245 => 129 | 287 => 151 | 279 => 152 | 280 => 153 | 281 => 154 | 282 => 155 | 321 => 168 | 322 => 169 | 316 => 170 | 171 => 172 | 205 => 171 | 243 => 181 | 246 => 185 | 283 => 189 | 284 => 190 | 285 => 191 | 286 => 192 | 129 => 196 | 317 => 195 | 318 => 197 | 319 => 198 | 320 => 199 | 337 => 202 | 338 => 203 | n => n, fun | 9 => 9 | 3 => 3 | 2 => 2 | 75 => 98 | 85 => 99 | 4 => 4 | 167 => 138 | 5 => 5 | 53 => 104 | 175 => 139 | 46 => 141 | 168 => 142 | 37 => 128 | 0 => 0 | 210 => 158 | 21 => 21 | 127 => 175 | 145 => 178 | 143 => 176 | 171 => 185 | 173 => 188 | 212 => 191 | 51 => 149 | 20 => 20 | 213 => 192 | 232 => 200 | 233 => 201 | 80 => 95 | n => n, fun | 15 => 3 | 16 => 4 | 17 => 7 | 18 => 8 | 19 => 9 | n => n⟩
theorem Tryz.laysC174 : Go.Proofs.LaysC.n174 Tryz.prog Tryz.laysC174_ren := {
  mixed := by kernel_rfl
  f129 := Tryz.func196.trans (congrArg some (by kernel_rfl))
  f171 := Tryz.func172.trans (congrArg some (by kernel_rfl))
  f174 := Tryz.func97.trans (congrArg some (by kernel_rfl))
  f205 := Tryz.func171.trans (congrArg some (by kernel_rfl))
  f243 := Tryz.func181.trans (congrArg some (by kernel_rfl))
  f245 := Tryz.func129.trans (congrArg some (by kernel_rfl))
  f246 := Tryz.func185.trans (congrArg some (by kernel_rfl))
  f247 := Tryz.func128.trans (congrArg some (by kernel_rfl))
  f279 := Tryz.func152.trans (congrArg some (by kernel_rfl))
  f280 := Tryz.func153.trans (congrArg some (by kernel_rfl))
  f281 := Tryz.func154.trans (congrArg some (by kernel_rfl))
  f282 := Tryz.func155.trans (congrArg some (by kernel_rfl))
  f283 := Tryz.func189.trans (congrArg some (by kernel_rfl))
  f284 := Tryz.func190.trans (congrArg some (by kernel_rfl))
  f285 := Tryz.func191.trans (congrArg some (by kernel_rfl))
  f286 := Tryz.func192.trans (congrArg some (by kernel_rfl))
  f287 := Tryz.func151.trans (congrArg some (by kernel_rfl))
  f316 := Tryz.func170.trans (congrArg some (by kernel_rfl))
  f317 := Tryz.func195.trans (congrArg some (by kernel_rfl))
  f318 := Tryz.func197.trans (congrArg some (by kernel_rfl))
  f319 := Tryz.func198.trans (congrArg some (by kernel_rfl))
  f320 := Tryz.func199.trans (congrArg some (by kernel_rfl))
  f321 := Tryz.func168.trans (congrArg some (by kernel_rfl))
  f322 := Tryz.func169.trans (congrArg some (by kernel_rfl))
  f337 := Tryz.func202.trans (congrArg some (by kernel_rfl))
  f338 := Tryz.func203.trans (congrArg some (by kernel_rfl))
  t0 := Tryz.underlying0
  a0 := Tryz.isAgg0
  z0 := Tryz.sizeOf0
  v0 := Tryz.zeroValue0
  t2 := Tryz.underlying2
  a2 := Tryz.isAgg2
  z2 := Tryz.sizeOf2
  v2 := Tryz.zeroValue2
  t3 := Tryz.underlying3
  a3 := Tryz.isAgg3
  z3 := Tryz.sizeOf3
  v3 := Tryz.zeroValue3
  t4 := Tryz.underlying4
  a4 := Tryz.isAgg4
  z4 := Tryz.sizeOf4
  v4 := Tryz.zeroValue4
  t5 := Tryz.underlying5
  a5 := Tryz.isAgg5
  z5 := Tryz.sizeOf5
  v5 := Tryz.zeroValue5
  t9 := Tryz.underlying9
  a9 := Tryz.isAgg9
  z9 := Tryz.sizeOf9
  v9 := Tryz.zeroValue9
  t20 := Tryz.underlying20
  a20 := Tryz.isAgg20
  z20 := Tryz.sizeOf20
  v20 := Tryz.zeroValue20
  t21 := Tryz.underlying21
  a21 := Tryz.isAgg21
  z21 := Tryz.sizeOf21
  v21 := Tryz.zeroValue21
  t37 := Tryz.underlying128
  a37 := Tryz.isAgg128
  z37 := Tryz.sizeOf128
  v37 := Tryz.zeroValue128
  t46 := Tryz.underlying141
  a46 := Tryz.isAgg141
  z46 := Tryz.sizeOf141
  v46 := Tryz.zeroValue141
  t51 := Tryz.underlying149
  a51 := Tryz.isAgg149
  z51 := Tryz.sizeOf149
  v51 := Tryz.zeroValue149
  t53 := Tryz.underlying104
  a53 := Tryz.isAgg104
  z53 := Tryz.sizeOf104
  v53 := Tryz.zeroValue104
  t75 := Tryz.underlying98
  a75 := Tryz.isAgg98
  z75 := Tryz.sizeOf98
  v75 := Tryz.zeroValue98
  t85 := Tryz.underlying99
  a85 := Tryz.isAgg99
  z85 := Tryz.sizeOf99
  v85 := Tryz.zeroValue99
  t127 := Tryz.underlying175
  a127 := Tryz.isAgg175
  z127 := Tryz.sizeOf175
  v127 := Tryz.zeroValue175
  t143 := Tryz.underlying176
  a143 := Tryz.isAgg176
  z143 := Tryz.sizeOf176
  v143 := Tryz.zeroValue176
  t145 := Tryz.underlying178
  a145 := Tryz.isAgg178
  z145 := Tryz.sizeOf178
  v145 := Tryz.zeroValue178
  t167 := Tryz.underlying138
  a167 := Tryz.isAgg138
  z167 := Tryz.sizeOf138
  v167 := Tryz.zeroValue138
  t168 := Tryz.underlying142
  a168 := Tryz.isAgg142
  z168 := Tryz.sizeOf142
  v168 := Tryz.zeroValue142
  t171 := Tryz.underlying185
  a171 := Tryz.isAgg185
  z171 := Tryz.sizeOf185
  v171 := Tryz.zeroValue185
  t173 := Tryz.underlying188
  a173 := Tryz.isAgg188
  z173 := Tryz.sizeOf188
  v173 := Tryz.zeroValue188
  t175 := Tryz.underlying139
  a175 := Tryz.isAgg139
  z175 := Tryz.sizeOf139
  v175 := Tryz.zeroValue139
  t210 := Tryz.underlying158
  a210 := Tryz.isAgg158
  z210 := Tryz.sizeOf158
  v210 := Tryz.zeroValue158
  t212 := Tryz.underlying191
  a212 := Tryz.isAgg191
  z212 := Tryz.sizeOf191
  v212 := Tryz.zeroValue191
  t213 := Tryz.underlying192
  a213 := Tryz.isAgg192
  z213 := Tryz.sizeOf192
  t232 := Tryz.underlying200
  a232 := Tryz.isAgg200
  z232 := Tryz.sizeOf200
  v232 := Tryz.zeroValue200
  t233 := Tryz.underlying201
  a233 := Tryz.isAgg201
  z233 := Tryz.sizeOf201
  v233 := Tryz.zeroValue201
  g15 := by kernel_rfl
  g16 := by kernel_rfl
  g17 := by kernel_rfl
  g18 := by kernel_rfl
  g19 := by kernel_rfl
  t80 := Tryz.underlying95
  a80 := Tryz.isAgg95
  z80 := Tryz.sizeOf95
  v80 := Tryz.zeroValue95
  i0 := by kernel_rfl
  i2 := by kernel_rfl
  i3 := by kernel_rfl
  i4 := by kernel_rfl
  i5 := by kernel_rfl
  i9 := by kernel_rfl
  i20 := by kernel_rfl
  i21 := by kernel_rfl
  i37 := by kernel_rfl
  i46 := by kernel_rfl
  i51 := by kernel_rfl
  i53 := by kernel_rfl
  i75 := by kernel_rfl
  i80 := by kernel_rfl
  i85 := by kernel_rfl
  i127 := by kernel_rfl
  i143 := by kernel_rfl
  i145 := by kernel_rfl
  i167 := by kernel_rfl
  i168 := by kernel_rfl
  i171 := by kernel_rfl
  i173 := by kernel_rfl
  i175 := by kernel_rfl
  i210 := by kernel_rfl
  i212 := by kernel_rfl
  i232 := by kernel_rfl
  i233 := by kernel_rfl
  m15 := by kernel_rfl
  m16 := by kernel_rfl
  m17 := by kernel_rfl
  m18 := by kernel_rfl
  m19 := by kernel_rfl
  c0 := by kernel_rfl
  c2 := by kernel_rfl
  c3 := by kernel_rfl
  c4 := by kernel_rfl
  c5 := by kernel_rfl
  c9 := by kernel_rfl
  c20 := by kernel_rfl
  c21 := by kernel_rfl
  c37 := by kernel_rfl
  c46 := by kernel_rfl
  c51 := by kernel_rfl
  c53 := by kernel_rfl
  c75 := by kernel_rfl
  c80 := by kernel_rfl
  c85 := by kernel_rfl
  c127 := by kernel_rfl
  c143 := by kernel_rfl
  c145 := by kernel_rfl
  c167 := by kernel_rfl
  c168 := by kernel_rfl
  c171 := by kernel_rfl
  c173 := by kernel_rfl
  c175 := by kernel_rfl
  c210 := by kernel_rfl
  c212 := by kernel_rfl
  c213 := by kernel_rfl
  c232 := by kernel_rfl
  c233 := by kernel_rfl }
open Go.RowKit in
/-- strconv.ParseInt(s, 10, 64), AT EVERY STRING THAT SPELLS AN int64 ('Lib.parseIntB 64 s.data.toList = .ok v'): v, AND NO ERROR. (LAID: no walk: one application.) -/
theorem Tryz.strconv_ParseInt_10_at64_ok (s : ByteArray) (hmax : s.size ≤ 9223372036854775806) (v : Int) (h : Lib.parseIntB 64 s.data.toList = .ok v) (w : World) :
    Calls Tryz.prog 97 #[.string s, .int .i64 10, .int .i64 64] w fun e w' => e = .returned (.tuple #[.int .i64 v, .nilIface]) ∧ (w' = w ∨ ∃ t, w' = Lib.bytesWorld w 5 t) := Any.strconv_ParseInt_10_at64_ok Tryz.laysC174 s hmax v h w
open Go.RowKit in
/-- strconv.ParseInt(s, 10, 64), AT EVERY STRING THAT IS NO DECIMAL NUMERAL: 0, AND AN ERROR THAT IS NOT nil: a *NumError in a new block N: {Func: "ParseInt", Num: s's bytes, Err: what the variable ErrSyntax holds}. Of what was there nothing has turned. (LAID: no walk: one application.) -/
theorem Tryz.strconv_ParseInt_10_at64_syntax (s : ByteArray) (hlim : s.size ≤ 281474976710656) (h : Lib.parseIntB 64 s.data.toList = .«syntax») (ev : Value) (w : World) (hv : w.cell? ⟨3, 0, none⟩ = some ev) (hev : ev = .nilIface ∨ ∃ te pe, ev = .iface te pe) :
    Calls Tryz.prog 97 #[.string s, .int .i64 10, .int .i64 64] w fun e w' => ∃ N, e = .returned (.tuple #[.int .i64 (0), .iface 142 (.pointer (some ⟨N, 0, none⟩))]) ∧ w.heap.size ≤ N ∧ w'.heap[N]? = some (.cells #[.string ⟨#[80, 97, 114, 115, 101, 73, 110, 116]⟩, .string s, ev] 158 (0, 0)) ∧ Below w.heap.size w w' := Any.strconv_ParseInt_10_at64_syntax Tryz.laysC174 s hlim h ev w hv hev
open Go.RowKit in
/-- strconv.ParseInt(s, 10, 64), AT EVERY NUMERAL THAT NO int64 HOLDS: THE GREATEST OR THE LEAST int64, BY THE SIGN ('Lib.intSat 64'), AND AN ERROR THAT IS NOT nil: a *NumError in a new block N: {Func: "ParseInt", Num: s's bytes, Err: what the variable ErrRange holds}. Of what was there nothing has turned. (LAID: no walk: one application.) -/
theorem Tryz.strconv_ParseInt_10_at64_range (s : ByteArray) (hlim : s.size ≤ 281474976710656) (h : Lib.parseIntB 64 s.data.toList = .range) (ev : Value) (w : World) (hv : w.cell? ⟨4, 0, none⟩ = some ev) (hev : ev = .nilIface ∨ ∃ te pe, ev = .iface te pe) :
    Calls Tryz.prog 97 #[.string s, .int .i64 10, .int .i64 64] w fun e w' => ∃ N, e = .returned (.tuple #[.int .i64 (Lib.intSat 64 s.data.toList), .iface 142 (.pointer (some ⟨N, 0, none⟩))]) ∧ w.heap.size ≤ N ∧ w'.heap[N]? = some (.cells #[.string ⟨#[80, 97, 114, 115, 101, 73, 110, 116]⟩, .string s, ev] 158 (0, 0)) ∧ Below w.heap.size w w' := Any.strconv_ParseInt_10_at64_range Tryz.laysC174 s hlim h ev w hv hev
def Tryz.lays157_ren : Go.Shelf.Ren := ⟨fun | 157 => 99 | 229 => 131 | 199 => 132 | 261 => 159 | 311 => 174 | 312 => 175 | n => n, fun | 9 => 9 | 31 => 34 | 3 => 3 | 5 => 5 | 4 => 4 | 119 => 125 | 0 => 0 | 40 => 123 | 152 => 146 | 21 => 21 | 154 => 148 | 51 => 149 | 141 => 151 | 196 => 165 | 193 => 162 | 198 => 168 | 49 => 166 | 194 => 163 | 201 => 171 | 226 => 179 | 46 => 141 | 227 => 180 | n => n, fun | 0 => 0 | 6 => 2 | n => n⟩
theorem Tryz.lays157 : Go.Proofs.Lays.n157 Tryz.prog Tryz.lays157_ren := {
  mixed := by kernel_rfl
  f157 := Tryz.func99.trans (congrArg some (by kernel_rfl))
  f199 := Tryz.func132.trans (congrArg some (by kernel_rfl))
  f229 := Tryz.func131.trans (congrArg some (by kernel_rfl))
  f261 := Tryz.func159.trans (congrArg some (by kernel_rfl))
  f311 := Tryz.func174.trans (congrArg some (by kernel_rfl))
  f312 := Tryz.func175.trans (congrArg some (by kernel_rfl))
  t0 := Tryz.underlying0
  a0 := Tryz.isAgg0
  z0 := Tryz.sizeOf0
  v0 := Tryz.zeroValue0
  t3 := Tryz.underlying3
  a3 := Tryz.isAgg3
  z3 := Tryz.sizeOf3
  v3 := Tryz.zeroValue3
  t4 := Tryz.underlying4
  a4 := Tryz.isAgg4
  z4 := Tryz.sizeOf4
  v4 := Tryz.zeroValue4
  t5 := Tryz.underlying5
  a5 := Tryz.isAgg5
  z5 := Tryz.sizeOf5
  v5 := Tryz.zeroValue5
  t9 := Tryz.underlying9
  a9 := Tryz.isAgg9
  z9 := Tryz.sizeOf9
  v9 := Tryz.zeroValue9
  t21 := Tryz.underlying21
  a21 := Tryz.isAgg21
  z21 := Tryz.sizeOf21
  v21 := Tryz.zeroValue21
  t31 := Tryz.underlying34
  a31 := Tryz.isAgg34
  z31 := Tryz.sizeOf34
  v31 := Tryz.zeroValue34
  t40 := Tryz.underlying123
  a40 := Tryz.isAgg123
  z40 := Tryz.sizeOf123
  v40 := Tryz.zeroValue123
  t46 := Tryz.underlying141
  a46 := Tryz.isAgg141
  z46 := Tryz.sizeOf141
  v46 := Tryz.zeroValue141
  t49 := Tryz.underlying166
  a49 := Tryz.isAgg166
  z49 := Tryz.sizeOf166
  v49 := Tryz.zeroValue166
  t51 := Tryz.underlying149
  a51 := Tryz.isAgg149
  z51 := Tryz.sizeOf149
  v51 := Tryz.zeroValue149
  t119 := Tryz.underlying125
  a119 := Tryz.isAgg125
  z119 := Tryz.sizeOf125
  t141 := Tryz.underlying151
  a141 := Tryz.isAgg151
  z141 := Tryz.sizeOf151
  v141 := Tryz.zeroValue151
  t152 := Tryz.underlying146
  a152 := Tryz.isAgg146
  z152 := Tryz.sizeOf146
  v152 := Tryz.zeroValue146
  t154 := Tryz.underlying148
  a154 := Tryz.isAgg148
  z154 := Tryz.sizeOf148
  v154 := Tryz.zeroValue148
  t193 := Tryz.underlying162
  a193 := Tryz.isAgg162
  z193 := Tryz.sizeOf162
  v193 := Tryz.zeroValue162
  t194 := Tryz.underlying163
  a194 := Tryz.isAgg163
  z194 := Tryz.sizeOf163
  v194 := Tryz.zeroValue163
  t196 := Tryz.underlying165
  a196 := Tryz.isAgg165
  z196 := Tryz.sizeOf165
  v196 := Tryz.zeroValue165
  t198 := Tryz.underlying168
  a198 := Tryz.isAgg168
  z198 := Tryz.sizeOf168
  v198 := Tryz.zeroValue168
  t201 := Tryz.underlying171
  a201 := Tryz.isAgg171
  z201 := Tryz.sizeOf171
  v201 := Tryz.zeroValue171
  t226 := Tryz.underlying179
  a226 := Tryz.isAgg179
  z226 := Tryz.sizeOf179
  v226 := Tryz.zeroValue179
  t227 := Tryz.underlying180
  a227 := Tryz.isAgg180
  z227 := Tryz.sizeOf180
  v227 := Tryz.zeroValue180
  g0 := by kernel_rfl
  g6 := by kernel_rfl }
open Go.RowKit Go.Lib in
/-- strings.Fields, the table by 'Lib.TabIs' (as strings.TrimSpace's contract). 'hg': the table's number, by its name: at a dump 'by kernel_rfl'. (LAID: no walk: one application.) -/
theorem Tryz.strings_Fields (s : ByteArray) (w : World) (hs : s.size < 4294967281) (hascii : ∀ (j : Nat) b, s.data.toList[j]? = some b → b.toNat < 128) (htab : Lib.TabIs Tryz.prog w "strings.asciiSpace" .u8 Lib.asciiSpaceTab) :
    Calls Tryz.prog 99 #[.string s] w fun e w' =>
      e = .returned (.slice (some ⟨w.heap.size, 0, none⟩) (Lib.fields s.data.toList).length (Lib.fields s.data.toList).length) ∧ w' = w.alloc (.cells ((Lib.fields s.data.toList).map fun l => Value.string ⟨l.toArray⟩).toArray 9) := Any.strings_Fields Tryz.lays157 (by kernel_rfl) (by kernel_rfl) s w hs hascii htab

end Go.Proofs
end

section
namespace Go.Vm
open Go.Proofs Go.RowKit
/-- The text of the marks of two bytes, and its fields. -/
def twoL : List UInt8 := [58, 61, 32, 45, 62, 32, 60, 61, 32, 62, 61, 32, 60, 62]
def twoF : List (List D) := [[.str (bs [58, 61])], [.str (bs [45, 62])], [.str (bs [60, 61])], [.str (bs [62, 61])], [.str (bs [60, 62])]]
/-- What is known of functions from elsewhere: strings.Fields at the text of the marks. -/
def kn : FuncId → List V → Option PRes := fun f args => match Nat.beq f 99, args with
  | true, [.d (.str s)] => match decide (s.data.toList = twoL) with
    | true => some (.val [.sl 1 twoF])
    | false => none
  | _, _ => none
theorem fields_two : Lib.fields twoL = [[58, 61], [45, 62], [60, 61], [62, 61], [60, 62]] := by decide +kernel
theorem tab_cell {Z : Nat → Nat → Prop} {w : World} (h : TabOK Z w) (c : Nat) (hc : c < 256) : w.cell? ⟨0, c, none⟩ = some (.int .u8 (if Lib.isSp (UInt8.ofNat c) then 1 else 0)) := by
  have h1 := (h.2 (0, Lib.asciiSpaceTab.map fun n => Value.int .u8 n) (by simp [gV]) c (.int .u8 (Lib.asciiSpaceTab.getD c 0)) (by
    rw [List.getElem?_map, List.getD_eq_getElem?_getD]
    have : c < Lib.asciiSpaceTab.length := by rw [Lib.asciiSpaceTab_length]; exact hc
    simp [this])).2
  rwa [Lib.asciiSpaceTab_at c hc] at h1
theorem fr_of_below {w w' : World} (h : Below w.heap.size w w') : Fr (fun _ => False) w w' := ⟨h.os, h.tape, h.output, h.size, fun k hk _ => h.block k hk⟩
theorem kv_good : KV Tryz.prog := by
  intro s hs g w us hsim hu
  obtain ⟨h1, h2⟩ := hu
  match us, h1 with
  | [u0, u1, u2], _ =>
    have e0 := rep_str_inv (h2 0 u0 _ rfl rfl)
    have e1 := rep_int_inv (h2 1 u1 _ rfl rfl)
    have e2 := rep_int_inv (h2 2 u2 _ rfl rfl)
    subst e0; subst e1; subst e2
    have fin : ∀ (v : Value) (n : Int) (b : Bool) (w' : World), Below w.heap.size w w' → (∀ (g' : Gh), Rep w' g' v (.ifn b)) → ∃ u g', Ending.returned (.tuple #[.int .i64 n, v]) = .returned u ∧ Rep w' g' u (.tup [.d (.int .i64 n), .ifn b]) ∧ Keep [] g [] w g' [] w' := by
      intro v n b w' hb hv
      refine ⟨_, g, rfl, .tup _ _ rfl fun i u c hu hc => ?_, Keep.of_fr hsim (fr_of_below hb)⟩
      match i with
      | 0 => simp at hu hc; subst hu; subst hc; exact .d (.int _ _)
      | 1 => simp at hu hc; subst hu; subst hc; exact hv g
      | i + 2 => simp at hc
    show Calls Tryz.prog 97 #[.string s, .int .i64 10, .int .i64 64] w _
    unfold pnumI pokB
    cases hp : Lib.parseIntB 64 s.data.toList with
    | ok v =>
      refine (Tryz.strconv_ParseInt_10_at64_ok s (by omega) v hp w).mono ?_
      rintro e w' ⟨rfl, hw⟩
      refine fin _ _ _ _ ?_ fun _ => .ifn0
      rcases hw with rfl | ⟨t, rfl⟩
      · exact Below.refl _ _
      · exact Lib.bytesWorld_below _ _ _
    | «syntax» =>
      obtain ⟨_, te, pe, hc⟩ := hsim.tab.1 3 (by simp [gI])
      refine (Tryz.strconv_ParseInt_10_at64_syntax s (by omega) hp _ w hc (.inr ⟨_, _, rfl⟩)).mono ?_
      rintro e w' ⟨N, rfl, _, _, hb⟩
      exact fin _ _ _ _ hb fun _ => .ifn1 _ _
    | range =>
      obtain ⟨_, te, pe, hc⟩ := hsim.tab.1 4 (by simp [gI])
      refine (Tryz.strconv_ParseInt_10_at64_range s (by omega) hp _ w hc (.inr ⟨_, _, rfl⟩)).mono ?_
      rintro e w' ⟨N, rfl, _, _, hb⟩
      exact fin _ _ _ _ hb fun _ => .ifn1 _ _
theorem kn_good : KGood Tryz.prog kn := by
  refine ⟨kv_good, fun f args p ha h => ?_⟩
  unfold kn at h
  split at h
  · rename_i s hf
    split at h
    · rename_i hd
      have hf := Nat.eq_of_beq_eq_true hf
      subst hf
      have hd := of_decide_eq_true hd
      cases h
      refine ⟨[34], [.sl 1], .d (.sl 1 twoF), by kernel_rfl, by kernel_rfl, rfl, by kernel_rfl, fun g w us hsim hu => ?_⟩
      obtain ⟨h1, h2⟩ := hu
      match us, h1 with
      | [u0], _ =>
        have e0 := rep_str_inv (h2 0 u0 _ rfl rfl)
        subst e0
        have hsz : s.size = 14 := by
          have : s.data.toList.length = twoL.length := by rw [hd]
          simpa [twoL] using this
        have L := Any.strings_Fields_core Tryz.lays157 (by kernel_rfl) s w (by omega) (fun j b hb => by
          rw [hd] at hb
          have := List.mem_of_getElem? hb
          have hall : ∀ b ∈ twoL, b.toNat < 128 := by decide
          exact hall b this) (fun c hc => tab_cell hsim.tab c hc)
        refine L.mono ?_
        rintro e w' ⟨rfl, rfl⟩
        rw [hd, fields_two]
        refine ⟨_, _, rfl, ?_, Keep.newZ hsim _ _⟩
        have hcell : ∀ (i : Nat) (v : Value), (([[58, 61], [45, 62], [60, 61], [62, 61], [60, 62]] : List (List UInt8)).map fun l => Value.string ⟨l.toArray⟩).toArray[i]? = some v → (w.alloc (.cells (([[58, 61], [45, 62], [60, 61], [62, 61], [60, 62]] : List (List UInt8)).map fun l => Value.string ⟨l.toArray⟩).toArray 9)).cell? ⟨w.heap.size, i, none⟩ = some v := by
          intro i v hv
          simp only [World.cell?, World.alloc, Array.getElem?_push, if_true]
          simpa using hv
        refine .d (.sl _ 0 5 5 1 twoF (fun i j => .string (match twoF[i]? with
          | some [.str s] => s
          | _ => default)) rfl (Nat.le_refl _) ?_ ?_ ?_ ?_)
        · intro i r hr
          match i with
          | 0 | 1 | 2 | 3 | 4 => simp [twoF] at hr; subst hr; rfl
          | i + 5 => simp [twoF] at hr
        · intro i r j c hr hc; exact .inr rfl
        · intro i r j c hr hc
          match i, j with
          | 0, 0 | 1, 0 | 2, 0 | 3, 0 | 4, 0 => exact hcell _ _ rfl
          | 0, j + 1 | 1, j + 1 | 2, j + 1 | 3, j + 1 | 4, j + 1 => simp [twoF] at hr; subst hr; simp at hc
          | i + 5, j => simp [twoF] at hr
        · intro i r j c hr hc
          match i, j with
          | 0, 0 | 1, 0 | 2, 0 | 3, 0 | 4, 0 => simp [twoF] at hr; subst hr; simp at hc; subst hc; exact .str _
          | 0, j + 1 | 1, j + 1 | 2, j + 1 | 3, j + 1 | 4, j + 1 => simp [twoF] at hr; subst hr; simp at hc
          | i + 5, j => simp [twoF] at hr
    · cases h
  · cases h
end Go.Vm
end

section
namespace Go.Vm
open Go.Proofs
noncomputable def cF (f : FuncId) (args : List V) : Option PRes := callF Tryz.prog cs kn f args
noncomputable def eF : Env := envF (callF Tryz.prog cs kn)
theorem eF_call (f : FuncId) (args : List V) : eF.call f args = cF f args := rfl
theorem eF_lp {α : Type} (b : List D → Option (List D ⊕ α)) (ds : List D) : eF.lp b ds = loopF b ds := rfl
theorem cOf {f : FuncId} {args : List V} {p : PRes} (hg : goodF Tryz.prog f = true) (hk : kn f args = none) (h : (funT sy Tryz.prog cs f args).run eF = some p) : cF f args = some p := callF_of hg hk h
theorem cOfE {α : Type} {f : FuncId} {args : List V} {p : α → PRes} (hg : goodF Tryz.prog f = true) (hk : kn f args = none) (h : ∃ x, (funT sy Tryz.prog cs f args).run eF = some (p x)) : ∃ x, cF f args = some (p x) := h.imp fun _ h => callF_of hg hk h
theorem cOfP {f : FuncId} {args : List V} {Q : PRes → Prop} (hg : goodF Tryz.prog f = true) (hk : kn f args = none) (h : ∃ p, (funT sy Tryz.prog cs f args).run eF = some p ∧ Q p) : ∃ p, cF f args = some p ∧ Q p := h.imp fun _ h => ⟨callF_of hg hk h.1, h.2⟩
theorem some_and {α : Type} {a : α} {Q : α → Prop} : (∃ p, some a = some p ∧ Q p) ↔ Q a := by simp
theorem decT {p : Prop} [Decidable p] (h : p) : decide p = true := decide_eq_true h
theorem decF {p : Prop} [Decidable p] (h : ¬ p) : decide p = false := decide_eq_false h
theorem inr_at {i n : Nat} (h : i < n) : decide (0 ≤ (i : Int) ∧ (i : Int) < (n : Int)) = true := decide_eq_true ⟨by omega, by omega⟩
theorem ilt_at {i n : Nat} (h : i < n) : decide ((i : Int) < (n : Int)) = true := decide_eq_true (by omega)
theorem ilt_self (n : Nat) : decide ((n : Int) < (n : Int)) = false := decide_eq_false (by omega)
theorem wrap_succ {i n : Nat} (h : i < n) (hn : n ≤ 1000000000000) : IntKind.i64.wrap ((i : Int) + 1) = (i : Int) + 1 := wrap_id (by omega) (by omega)
theorem mixedOrders : Tryz.prog.follows .mixedOrders = true := by kernel_rfl
end Go.Vm
end

section
set_option maxRecDepth 10000
namespace Go.Vm
/-- What steps are, in one. -/
theorem go1 : type_of% (And.intro @sy_wrap (And.intro @sy_add (And.intro @sy_sub (And.intro @sy_mul (And.intro @sy_ieq (And.intro @sy_ilt (And.intro @sy_ile (And.intro @sy_seq (And.intro @sy_beq (And.intro @sy_bor (And.intro @sy_bnot (And.intro @sy_imax (And.intro @sy_imin (And.intro @sy_rlen (And.intro @sy_slen (And.intro @sy_sapp (And.intro @sy_inr (And.intro @sy_nat (And.intro @sy_cell0 (And.intro @sy_cellS (And.intro @sy_skip0 (And.intro @sy_inrn (And.intro @sy_rapp (And.intro @sy_fits (And.intro @sy_cutok (And.intro @sy_cut (And.intro @sy_scut (And.intro @sy_sbyte (And.intro @sy_mkok (And.intro @sy_mkok0 (And.intro @sy_mkz (And.intro @sy_rep (And.intro @sy_head (And.intro @sy_deq (And.intro @eqDs_int (And.intro @eqDs_nil (And.intro @opI_int (And.intro @opB_bool (And.intro @opS_str (And.intro @opL_sl (And.intro @opM_own (And.intro @leaves_val (And.intro @leaves_own (And.intro @cutO_bool (And.intro @bif_bool (And.intro @cutO_inl (And.intro @cutO_inr (And.intro @eF_call (And.intro @eF_lp (And.intro @Nat.zero_add (And.intro @Bool.cond_false_right (And.intro @Bool.cond_true_left (And.intro @Bool.cond_false_left (And.intro @Bool.cond_true_right (And.intro @Bool.not_true (And.intro @Bool.not_false (And.intro @Bool.not_not (And.intro @decide_true (And.intro @decide_false (And.intro @Bool.true_and (And.intro @Bool.and_true (And.intro @Bool.false_and (And.intro @Bool.and_false (And.intro @Bool.or_false (And.intro @Bool.false_or (And.intro @Bool.true_or (And.intro @Bool.or_true (And.intro @true_and (@and_true))))))))))))))))))))))))))))))))))))))))))))))))))))))))))))))))))))) := And.intro @sy_wrap (And.intro @sy_add (And.intro @sy_sub (And.intro @sy_mul (And.intro @sy_ieq (And.intro @sy_ilt (And.intro @sy_ile (And.intro @sy_seq (And.intro @sy_beq (And.intro @sy_bor (And.intro @sy_bnot (And.intro @sy_imax (And.intro @sy_imin (And.intro @sy_rlen (And.intro @sy_slen (And.intro @sy_sapp (And.intro @sy_inr (And.intro @sy_nat (And.intro @sy_cell0 (And.intro @sy_cellS (And.intro @sy_skip0 (And.intro @sy_inrn (And.intro @sy_rapp (And.intro @sy_fits (And.intro @sy_cutok (And.intro @sy_cut (And.intro @sy_scut (And.intro @sy_sbyte (And.intro @sy_mkok (And.intro @sy_mkok0 (And.intro @sy_mkz (And.intro @sy_rep (And.intro @sy_head (And.intro @sy_deq (And.intro @eqDs_int (And.intro @eqDs_nil (And.intro @opI_int (And.intro @opB_bool (And.intro @opS_str (And.intro @opL_sl (And.intro @opM_own (And.intro @leaves_val (And.intro @leaves_own (And.intro @cutO_bool (And.intro @bif_bool (And.intro @cutO_inl (And.intro @cutO_inr (And.intro @eF_call (And.intro @eF_lp (And.intro @Nat.zero_add (And.intro @Bool.cond_false_right (And.intro @Bool.cond_true_left (And.intro @Bool.cond_false_left (And.intro @Bool.cond_true_right (And.intro @Bool.not_true (And.intro @Bool.not_false (And.intro @Bool.not_not (And.intro @decide_true (And.intro @decide_false (And.intro @Bool.true_and (And.intro @Bool.and_true (And.intro @Bool.false_and (And.intro @Bool.and_false (And.intro @Bool.or_false (And.intro @Bool.false_or (And.intro @Bool.true_or (And.intro @Bool.or_true (And.intro @true_and (@and_true))))))))))))))))))))))))))))))))))))))))))))))))))))))))))))))))))))
end Go.Vm
end

section
namespace Go.Vm
/-! ### steps through a printed function whose data have known shapes -/
section
variable {α β : Type}
theorem st_bind {v : Option α} {f : α → Option β} {n : α} {p : β} (h : v = some n) (k : f n = some p) : v.bind f = some p := by rw [h]; exact k
theorem st_cut {X : Option (List D ⊕ α)} {K : List D → Option α} {ds : List D} {p : α} (h : X = some (.inl ds)) (k : K ds = some p) : cutO X K = some p := by rw [h]; exact k
theorem st_t {c : Bool} {a b : Option α} {p : α} (h : c = true) (k : a = some p) : (bif c then a else b) = some p := by rw [h]; exact k
theorem st_f {c : Bool} {a b : Option α} {p : α} (h : c = false) (k : b = some p) : (bif c then a else b) = some p := by rw [h]; exact k
theorem st_opI {v : Option D} {k : IntKind} {n : Int} (h : v = some (.int k n)) : opI v k = some n := by rw [h]; simp [opI]
theorem st_opB {v : Option D} {n : Bool} (h : v = some (.bool n)) : opB v = some n := by rw [h]; rfl
theorem st_opL {v : Option D} {sz : Nat} {n : List (List D)} (h : v = some (.sl sz n)) : opL v sz = some n := by rw [h]; simp [opL]
/-- What a round's answer leads to. -/
noncomputable def lpK (b : List D → Option (List D ⊕ α)) : List D ⊕ α → Option α
  | .inl ds => eF.lp b ds
  | .inr a => some a
theorem st_lp {b : List D → Option (List D ⊕ α)} {ds : List D} {r : List D ⊕ α} {p : α} (h : b ds = some r) (k : lpK b r = some p) : eF.lp b ds = some p := by
  show loopF b ds = some p
  rw [loopF_eq, h]
  cases r with
  | inl d => exact k
  | inr a => exact k
theorem st_inl {b : List D → Option (List D ⊕ α)} {ds : List D} {p : α} (k : eF.lp b ds = some p) : lpK b (.inl ds) = some p := k
theorem st_inr {b : List D → Option (List D ⊕ α)} {a : α} : lpK b (.inr a) = some a := rfl
theorem st_some {a : α} : some a = some a := rfl
end
end Go.Vm
end

section
set_option maxRecDepth 1000000
set_option maxHeartbeats 0
namespace Go.Vm
open Go.Proofs
def g49 (A : Sy) (E : Env) (c_ : Int) : Option PRes :=
 cutO (
  bif (A.ieq c_ 32) then
   some (.inl [(.bool true)])
  else
   some (.inl [(.bool (A.ieq c_ 9))])
 ) fun ds1 =>
 (opB (A.cell ds1 0)).bind fun b2 =>
 cutO (
  bif b2 then
   some (.inl [(.bool true)])
  else
   some (.inl [(.bool (A.ieq c_ 10))])
 ) fun ds3 =>
 (opB (A.cell ds3 0)).bind fun b4 =>
 cutO (
  bif b4 then
   some (.inl [(.bool true)])
  else
   some (.inl [(.bool (A.ieq c_ 13))])
 ) fun ds5 =>
 (opB (A.cell ds5 0)).bind fun b6 =>
 some (PRes.val [(.bool b6)])
theorem g49_eq (A : Sy) (E : Env) (c_ : Int) : (funT A Tryz.prog cs 49 [V.d (.int .u8 c_)]).run E = g49 A E c_ := by kernel_rfl
def g51 (A : Sy) (E : Env) (c_ : Int) : Option PRes :=
 some (PRes.val [(.bool (A.bnot (A.ieq c_ 10)))])
theorem g51_eq (A : Sy) (E : Env) (c_ : Int) : (funT A Tryz.prog cs 51 [V.d (.int .u8 c_)]).run E = g51 A E c_ := by kernel_rfl
def g52 (A : Sy) (E : Env) (c_ : Int) : Option PRes :=
 cutO (
  bif (A.ile 97 c_) then
   some (.inl [(.bool (A.ile c_ 122))])
  else
   some (.inl [(.bool false)])
 ) fun ds1 =>
 (opB (A.cell ds1 0)).bind fun b2 =>
 some (PRes.val [(.bool b2)])
theorem g52_eq (A : Sy) (E : Env) (c_ : Int) : (funT A Tryz.prog cs 52 [V.d (.int .u8 c_)]).run E = g52 A E c_ := by kernel_rfl
def g53 (A : Sy) (E : Env) (c_ : Int) : Option PRes :=
 cutO (
  bif (A.ile 65 c_) then
   some (.inl [(.bool (A.ile c_ 90))])
  else
   some (.inl [(.bool false)])
 ) fun ds1 =>
 (opB (A.cell ds1 0)).bind fun b2 =>
 some (PRes.val [(.bool b2)])
theorem g53_eq (A : Sy) (E : Env) (c_ : Int) : (funT A Tryz.prog cs 53 [V.d (.int .u8 c_)]).run E = g53 A E c_ := by kernel_rfl
def g55 (A : Sy) (E : Env) (c_ : Int) : Option PRes :=
 cutO (
  bif (A.ile 48 c_) then
   some (.inl [(.bool (A.ile c_ 57))])
  else
   some (.inl [(.bool false)])
 ) fun ds1 =>
 (opB (A.cell ds1 0)).bind fun b2 =>
 some (PRes.val [(.bool b2)])
theorem g55_eq (A : Sy) (E : Env) (c_ : Int) : (funT A Tryz.prog cs 55 [V.d (.int .u8 c_)]).run E = g55 A E c_ := by kernel_rfl
def g93 (A : Sy) (E : Env) (c_ : Int) : Option PRes :=
 (E.call 52 [(.d (.int .u8 c_))]).bind fun p1 =>
 (opB (A.cell p1.leaves 0)).bind fun b3 =>
 cutO (
  bif b3 then
   some (.inl [(.bool true)])
  else
   (E.call 53 [(.d (.int .u8 c_))]).bind fun p4 =>
   (opB (A.cell p4.leaves 0)).bind fun b6 =>
   some (.inl [(.bool b6)])
 ) fun ds7 =>
 (opB (A.cell ds7 0)).bind fun b8 =>
 cutO (
  bif b8 then
   some (.inl [(.bool true)])
  else
   (E.call 55 [(.d (.int .u8 c_))]).bind fun p9 =>
   (opB (A.cell p9.leaves 0)).bind fun b11 =>
   some (.inl [(.bool b11)])
 ) fun ds12 =>
 (opB (A.cell ds12 0)).bind fun b13 =>
 cutO (
  bif b13 then
   some (.inl [(.bool true)])
  else
   some (.inl [(.bool (A.ieq c_ 95))])
 ) fun ds14 =>
 (opB (A.cell ds14 0)).bind fun b15 =>
 some (PRes.val [(.bool b15)])
theorem g93_eq (A : Sy) (E : Env) (c_ : Int) : (funT A Tryz.prog cs 93 [V.d (.int .u8 c_)]).run E = g93 A E c_ := by kernel_rfl
def g48_49 (A : Sy) (E : Env)(s_ : ByteArray) : Option PRes :=
 E.lp (fun ds1 =>
  (opS (A.cell ds1 0)).bind fun s2 =>
  (opI (A.cell ds1 1) .i64).bind fun n3 =>
  bif (A.ilt n3 (A.slen s2)) then
   bif (A.inr n3 (A.slen s2)) then
    (E.call 49 [(.d (.int .u8 (A.sbyte s2 n3)))]).bind fun p4 =>
    (opB (A.cell p4.leaves 0)).bind fun b6 =>
    bif b6 then
     some (.inl [(.str s2), (.int .i64 (A.wrap .i64 (A.add n3 1)))])
    else
     some (.inr (PRes.val [(.int .i64 n3)]))
   else
    none
  else
   some (.inr (PRes.val [(.int .i64 n3)]))
 ) [(.str s_), (.int .i64 0)]
theorem g48_49_eq (A : Sy) (E : Env)(s_ : ByteArray) : (funT A Tryz.prog cs 48 [V.d (.str s_), V.fn 49 []]).run E = g48_49 A E s_ := by kernel_rfl
def g48_51 (A : Sy) (E : Env)(s_ : ByteArray) : Option PRes :=
 E.lp (fun ds1 =>
  (opS (A.cell ds1 0)).bind fun s2 =>
  (opI (A.cell ds1 1) .i64).bind fun n3 =>
  bif (A.ilt n3 (A.slen s2)) then
   bif (A.inr n3 (A.slen s2)) then
    (E.call 51 [(.d (.int .u8 (A.sbyte s2 n3)))]).bind fun p4 =>
    (opB (A.cell p4.leaves 0)).bind fun b6 =>
    bif b6 then
     some (.inl [(.str s2), (.int .i64 (A.wrap .i64 (A.add n3 1)))])
    else
     some (.inr (PRes.val [(.int .i64 n3)]))
   else
    none
  else
   some (.inr (PRes.val [(.int .i64 n3)]))
 ) [(.str s_), (.int .i64 0)]
theorem g48_51_eq (A : Sy) (E : Env)(s_ : ByteArray) : (funT A Tryz.prog cs 48 [V.d (.str s_), V.fn 51 []]).run E = g48_51 A E s_ := by kernel_rfl
def g48_93 (A : Sy) (E : Env)(s_ : ByteArray) : Option PRes :=
 E.lp (fun ds1 =>
  (opS (A.cell ds1 0)).bind fun s2 =>
  (opI (A.cell ds1 1) .i64).bind fun n3 =>
  bif (A.ilt n3 (A.slen s2)) then
   bif (A.inr n3 (A.slen s2)) then
    (E.call 93 [(.d (.int .u8 (A.sbyte s2 n3)))]).bind fun p4 =>
    (opB (A.cell p4.leaves 0)).bind fun b6 =>
    bif b6 then
     some (.inl [(.str s2), (.int .i64 (A.wrap .i64 (A.add n3 1)))])
    else
     some (.inr (PRes.val [(.int .i64 n3)]))
   else
    none
  else
   some (.inr (PRes.val [(.int .i64 n3)]))
 ) [(.str s_), (.int .i64 0)]
theorem g48_93_eq (A : Sy) (E : Env)(s_ : ByteArray) : (funT A Tryz.prog cs 48 [V.d (.str s_), V.fn 93 []]).run E = g48_93 A E s_ := by kernel_rfl
def g48_55 (A : Sy) (E : Env)(s_ : ByteArray) : Option PRes :=
 E.lp (fun ds1 =>
  (opS (A.cell ds1 0)).bind fun s2 =>
  (opI (A.cell ds1 1) .i64).bind fun n3 =>
  bif (A.ilt n3 (A.slen s2)) then
   bif (A.inr n3 (A.slen s2)) then
    (E.call 55 [(.d (.int .u8 (A.sbyte s2 n3)))]).bind fun p4 =>
    (opB (A.cell p4.leaves 0)).bind fun b6 =>
    bif b6 then
     some (.inl [(.str s2), (.int .i64 (A.wrap .i64 (A.add n3 1)))])
    else
     some (.inr (PRes.val [(.int .i64 n3)]))
   else
    none
  else
   some (.inr (PRes.val [(.int .i64 n3)]))
 ) [(.str s_), (.int .i64 0)]
theorem g48_55_eq (A : Sy) (E : Env)(s_ : ByteArray) : (funT A Tryz.prog cs 48 [V.d (.str s_), V.fn 55 []]).run E = g48_55 A E s_ := by kernel_rfl
def g26 (A : Sy) (E : Env) (s_ : ByteArray) : Option PRes :=
 E.lp (fun ds1 =>
  (opS (A.cell ds1 0)).bind fun s2 =>
  (opI (A.cell ds1 1) .i64).bind fun n3 =>
  bif (A.cutok n3 (A.slen s2) (A.slen s2)) then
   (E.call 48 [(.d (.str (A.scut s2 n3 (A.slen s2)))), (.fn 49 [])]).bind fun p4 =>
   (opI (A.cell p4.leaves 0) .i64).bind fun n6 =>
   bif (A.cutok (A.wrap .i64 (A.add n3 n6)) (A.slen s2) (A.slen s2)) then
    (E.call 50 [(.d (.str (A.scut s2 (A.wrap .i64 (A.add n3 n6)) (A.slen s2)))), (.d (.str (bs [45, 45])))]).bind fun p7 =>
    (opB (A.cell p7.leaves 0)).bind fun b9 =>
    bif b9 then
     bif (A.cutok (A.wrap .i64 (A.add n3 n6)) (A.slen s2) (A.slen s2)) then
      (E.call 48 [(.d (.str (A.scut s2 (A.wrap .i64 (A.add n3 n6)) (A.slen s2)))), (.fn 51 [])]).bind fun p10 =>
      (opI (A.cell p10.leaves 0) .i64).bind fun n12 =>
      some (.inl [(.str s2), (.int .i64 (A.wrap .i64 (A.add (A.wrap .i64 (A.add n3 n6)) n12)))])
     else
      none
    else
     some (.inr (PRes.val [(.int .i64 (A.wrap .i64 (A.add n3 n6)))]))
   else
    none
  else
   none
 ) [(.str s_), (.int .i64 0)]
theorem g26_eq (A : Sy) (E : Env) (s_ : ByteArray) : (funT A Tryz.prog cs 26 [V.d (.str s_)]).run E = g26 A E s_ := by kernel_rfl
def g54 (A : Sy) (E : Env) (s_ : ByteArray) : Option PRes :=
 (E.call 48 [(.d (.str s_)), (.fn 93 [])]).bind fun p1 =>
 (opI (A.cell p1.leaves 0) .i64).bind fun n3 =>
 bif (A.cutok 0 n3 (A.slen s_)) then
  bif (A.inr 0 (A.slen (A.scut s_ 0 n3))) then
   (E.call 53 [(.d (.int .u8 (A.sbyte (A.scut s_ 0 n3) 0)))]).bind fun p4 =>
   (opB (A.cell p4.leaves 0)).bind fun b6 =>
   bif b6 then
    (E.call 94 [(.d (.str (A.scut s_ 0 n3)))]).bind fun p7 =>
    (opB (A.cell p7.leaves 0)).bind fun b9 =>
    some (PRes.val [(.int .i64 2), (.str (A.scut s_ 0 n3)), (.int .i64 0), (.int .i64 0), (.int .i64 (A.slen (A.scut s_ 0 n3))), (.bool b9)])
   else
    (E.call 95 [(.d (.str (A.scut s_ 0 n3)))]).bind fun p10 =>
    (opB (A.cell p10.leaves 0)).bind fun b12 =>
    cutO (
     bif b12 then
      some (.inl [(.bool true)])
     else
      (E.call 96 [(.d (.str (A.scut s_ 0 n3)))]).bind fun p13 =>
      (opB (A.cell p13.leaves 0)).bind fun b15 =>
      some (.inl [(.bool b15)])
    ) fun ds16 =>
    (opB (A.cell ds16 0)).bind fun b17 =>
    some (PRes.val [(.int .i64 1), (.str (A.scut s_ 0 n3)), (.int .i64 0), (.int .i64 0), (.int .i64 (A.slen (A.scut s_ 0 n3))), (.bool b17)])
  else
   none
 else
  none
theorem g54_eq (A : Sy) (E : Env) (s_ : ByteArray) : (funT A Tryz.prog cs 54 [V.d (.str s_)]).run E = g54 A E s_ := by kernel_rfl
def g56 (A : Sy) (E : Env) (s_ : ByteArray) : Option PRes :=
 (E.call 48 [(.d (.str s_)), (.fn 55 [])]).bind fun p1 =>
 (opI (A.cell p1.leaves 0) .i64).bind fun n3 =>
 bif (A.cutok 0 n3 (A.slen s_)) then
  bif (A.ile (A.slen (A.scut s_ 0 n3)) 1000000) then
   cutO (
    bif (A.pok (A.scut s_ 0 n3)) then
     bif (A.inr 0 (A.slen (A.scut s_ 0 n3))) then
      bif (A.bnot (A.ieq (A.sbyte (A.scut s_ 0 n3) 0) 48)) then
       some (.inl [(.bool true)])
      else
       some (.inl [(.bool (A.ieq (A.slen (A.scut s_ 0 n3)) 1))])
     else
      none
    else
     some (.inl [(.bool false)])
   ) fun ds4 =>
   (opB (A.cell ds4 0)).bind fun b5 =>
   some (PRes.val [(.int .i64 3), (.str (A.scut s_ 0 n3)), (.int .i64 (A.pnum (A.scut s_ 0 n3))), (.int .i64 0), (.int .i64 (A.slen (A.scut s_ 0 n3))), (.bool b5)])
  else
   none
 else
  none
theorem g56_eq (A : Sy) (E : Env) (s_ : ByteArray) : (funT A Tryz.prog cs 56 [V.d (.str s_)]).run E = g56 A E s_ := by kernel_rfl
def g57 (A : Sy) (E : Env) (s_ : ByteArray) : Option PRes :=
 bif (A.cutok 1 (A.slen s_) (A.slen s_)) then
  (E.call 98 [(.d (.str (A.scut s_ 1 (A.slen s_)))), (.d (.str (bs [39])))]).bind fun p1 =>
  (opI (A.cell p1.leaves 0) .i64).bind fun n3 =>
  bif (A.ilt n3 0) then
   some (PRes.val [(.int .i64 0), (.str (bs [])), (.int .i64 0), (.int .i64 0), (.int .i64 0), (.bool false)])
  else
   bif (A.cutok 1 (A.wrap .i64 (A.add n3 1)) (A.slen s_)) then
    (E.call 30 [(.d (.str (A.scut s_ 1 (A.wrap .i64 (A.add n3 1)))))]).bind fun p4 =>
    (opB (A.cell p4.leaves 0)).bind fun b6 =>
    some (PRes.val [(.int .i64 4), (.str (A.scut s_ 1 (A.wrap .i64 (A.add n3 1)))), (.int .i64 0), (.int .i64 0), (.int .i64 (A.wrap .i64 (A.add n3 2))), (.bool b6)])
   else
    none
 else
  none
theorem g57_eq (A : Sy) (E : Env) (s_ : ByteArray) : (funT A Tryz.prog cs 57 [V.d (.str s_)]).run E = g57 A E s_ := by kernel_rfl
def g58 (A : Sy) (E : Env) (s_ : ByteArray) : Option PRes :=
 (E.call 99 [(.d (.str (bs [58, 61, 32, 45, 62, 32, 60, 61, 32, 62, 61, 32, 60, 62])))]).bind fun p1 =>
 (opL (A.cell p1.leaves 0) 1).bind fun l3 =>
 E.lp (fun ds4 =>
  (opS (A.cell ds4 0)).bind fun s5 =>
  (opL (A.cell ds4 1) 1).bind fun l6 =>
  (opI (A.cell ds4 2) .i64).bind fun n7 =>
  (opI (A.cell ds4 3) .i64).bind fun n8 =>
  (opI (A.cell ds4 4) .i64).bind fun n9 =>
  (opS (A.cell ds4 5)).bind fun s10 =>
  (opI (A.cell ds4 6) .i64).bind fun n11 =>
  (opI (A.cell ds4 7) .i64).bind fun n12 =>
  bif (A.ilt n8 n7) then
   bif (A.inr n8 (A.rlen l6)) then
    (opS (A.cell (A.row l6 n8) 0)).bind fun s13 =>
    (E.call 50 [(.d (.str s5)), (.d (.str s13))]).bind fun p14 =>
    (opB (A.cell p14.leaves 0)).bind fun b16 =>
    bif b16 then
     some (.inr (PRes.val [(.int .i64 5), (.str s13), (.int .i64 0), (.int .i64 0), (.int .i64 (A.slen s13)), (.bool true)]))
    else
     some (.inl [(.str s5), (.sl 1 l6), (.int .i64 n7), (.int .i64 (A.wrap .i64 (A.add n8 1))), (.int .i64 n9), (.str s10), (.int .i64 n11), (.int .i64 n12)])
   else
    none
  else
   bif (A.inr 0 (A.slen s5)) then
    (E.call 100 [(.d (.str (bs [40, 41, 123, 125, 91, 93, 44, 59, 58, 61, 60, 62, 43, 45, 42, 47]))), (.d (.int .u8 (A.sbyte s5 0)))]).bind fun p17 =>
    (opI (A.cell p17.leaves 0) .i64).bind fun n19 =>
    bif (A.ilt n19 0) then
     some (.inr (PRes.val [(.int .i64 0), (.str (bs [])), (.int .i64 0), (.int .i64 0), (.int .i64 0), (.bool false)]))
    else
     bif (A.cutok 0 1 (A.slen s5)) then
      some (.inr (PRes.val [(.int .i64 5), (.str (A.scut s5 0 1)), (.int .i64 0), (.int .i64 0), (.int .i64 1), (.bool true)]))
     else
      none
   else
    none
 ) [(.str s_), (.sl 1 l3), (.int .i64 (A.rlen l3)), (.int .i64 0), (.int .i64 0), (.str (bs [])), (.int .i64 0), (.int .i64 0)]
theorem g58_eq (A : Sy) (E : Env) (s_ : ByteArray) : (funT A Tryz.prog cs 58 [V.d (.str s_)]).run E = g58 A E s_ := by kernel_rfl
def g27 (A : Sy) (E : Env) (s_ : ByteArray) : Option PRes :=
 bif (A.inr 0 (A.slen s_)) then
  (E.call 52 [(.d (.int .u8 (A.sbyte s_ 0)))]).bind fun p1 =>
  (opB (A.cell p1.leaves 0)).bind fun b3 =>
  bif b3 then
   (E.call 54 [(.d (.str s_))]).bind fun p4 =>
   (opI (A.cell p4.leaves 0) .i64).bind fun n6 =>
   (opS (A.cell p4.leaves 1)).bind fun s7 =>
   (opI (A.cell p4.leaves 2) .i64).bind fun n8 =>
   (opI (A.cell p4.leaves 3) .i64).bind fun n9 =>
   (opI (A.cell p4.leaves 4) .i64).bind fun n10 =>
   (opB (A.cell p4.leaves 5)).bind fun b11 =>
   some (PRes.val [(.int .i64 n6), (.str s7), (.int .i64 n8), (.int .i64 n9), (.int .i64 n10), (.bool b11)])
  else
   (E.call 53 [(.d (.int .u8 (A.sbyte s_ 0)))]).bind fun p12 =>
   (opB (A.cell p12.leaves 0)).bind fun b14 =>
   bif b14 then
    (E.call 54 [(.d (.str s_))]).bind fun p15 =>
    (opI (A.cell p15.leaves 0) .i64).bind fun n17 =>
    (opS (A.cell p15.leaves 1)).bind fun s18 =>
    (opI (A.cell p15.leaves 2) .i64).bind fun n19 =>
    (opI (A.cell p15.leaves 3) .i64).bind fun n20 =>
    (opI (A.cell p15.leaves 4) .i64).bind fun n21 =>
    (opB (A.cell p15.leaves 5)).bind fun b22 =>
    some (PRes.val [(.int .i64 n17), (.str s18), (.int .i64 n19), (.int .i64 n20), (.int .i64 n21), (.bool b22)])
   else
    (E.call 55 [(.d (.int .u8 (A.sbyte s_ 0)))]).bind fun p23 =>
    (opB (A.cell p23.leaves 0)).bind fun b25 =>
    bif b25 then
     (E.call 56 [(.d (.str s_))]).bind fun p26 =>
     (opI (A.cell p26.leaves 0) .i64).bind fun n28 =>
     (opS (A.cell p26.leaves 1)).bind fun s29 =>
     (opI (A.cell p26.leaves 2) .i64).bind fun n30 =>
     (opI (A.cell p26.leaves 3) .i64).bind fun n31 =>
     (opI (A.cell p26.leaves 4) .i64).bind fun n32 =>
     (opB (A.cell p26.leaves 5)).bind fun b33 =>
     some (PRes.val [(.int .i64 n28), (.str s29), (.int .i64 n30), (.int .i64 n31), (.int .i64 n32), (.bool b33)])
    else
     bif (A.cutok 0 1 (A.slen s_)) then
      bif (A.seq (A.scut s_ 0 1) (bs [39])) then
       (E.call 57 [(.d (.str s_))]).bind fun p34 =>
       (opI (A.cell p34.leaves 0) .i64).bind fun n36 =>
       (opS (A.cell p34.leaves 1)).bind fun s37 =>
       (opI (A.cell p34.leaves 2) .i64).bind fun n38 =>
       (opI (A.cell p34.leaves 3) .i64).bind fun n39 =>
       (opI (A.cell p34.leaves 4) .i64).bind fun n40 =>
       (opB (A.cell p34.leaves 5)).bind fun b41 =>
       some (PRes.val [(.int .i64 n36), (.str s37), (.int .i64 n38), (.int .i64 n39), (.int .i64 n40), (.bool b41)])
      else
       (E.call 58 [(.d (.str s_))]).bind fun p42 =>
       (opI (A.cell p42.leaves 0) .i64).bind fun n44 =>
       (opS (A.cell p42.leaves 1)).bind fun s45 =>
       (opI (A.cell p42.leaves 2) .i64).bind fun n46 =>
       (opI (A.cell p42.leaves 3) .i64).bind fun n47 =>
       (opI (A.cell p42.leaves 4) .i64).bind fun n48 =>
       (opB (A.cell p42.leaves 5)).bind fun b49 =>
       some (PRes.val [(.int .i64 n44), (.str s45), (.int .i64 n46), (.int .i64 n47), (.int .i64 n48), (.bool b49)])
     else
      none
 else
  none
theorem g27_eq (A : Sy) (E : Env) (s_ : ByteArray) : (funT A Tryz.prog cs 27 [V.d (.str s_)]).run E = g27 A E s_ := by kernel_rfl
def g8 (A : Sy) (E : Env) (s_ : ByteArray) (most_ : Int) : Option PRes :=
 bif (A.ilt most_ (A.slen s_)) then
  some (PRes.val [(.sl 4 []), (.int .i64 most_), (.int .i64 3)])
 else
  E.lp (fun ds1 =>
   (opS (A.cell ds1 0)).bind fun s2 =>
   (opI (A.cell ds1 1) .i64).bind fun n3 =>
   (opL (A.cell ds1 2) 4).bind fun l4 =>
   bif (A.cutok n3 (A.slen s2) (A.slen s2)) then
    (E.call 26 [(.d (.str (A.scut s2 n3 (A.slen s2))))]).bind fun p5 =>
    (opI (A.cell p5.leaves 0) .i64).bind fun n7 =>
    bif (A.ieq (A.wrap .i64 (A.add n3 n7)) (A.slen s2)) then
     bif (A.fits l4 [[(.int .i64 6), (.str (bs [])), (.int .i64 0), (.int .i64 (A.slen s2))]] 40) then
      some (.inr (PRes.val [(.sl 4 (A.rapp l4 [[(.int .i64 6), (.str (bs [])), (.int .i64 0), (.int .i64 (A.slen s2))]])), (.int .i64 (A.slen s2)), (.int .i64 0)]))
     else
      none
    else
     bif (A.cutok (A.wrap .i64 (A.add n3 n7)) (A.slen s2) (A.slen s2)) then
      (E.call 27 [(.d (.str (A.scut s2 (A.wrap .i64 (A.add n3 n7)) (A.slen s2))))]).bind fun p8 =>
      (opI (A.cell p8.leaves 0) .i64).bind fun n10 =>
      (opS (A.cell p8.leaves 1)).bind fun s11 =>
      (opI (A.cell p8.leaves 2) .i64).bind fun n12 =>
      (opI (A.cell p8.leaves 3) .i64).bind fun n13 =>
      (opI (A.cell p8.leaves 4) .i64).bind fun n14 =>
      (opB (A.cell p8.leaves 5)).bind fun b15 =>
      bif (A.bnot b15) then
       some (.inr (PRes.val [(.sl 4 []), (.int .i64 (A.wrap .i64 (A.add n3 n7))), (.int .i64 2)]))
      else
       bif (A.fits l4 [[(.int .i64 n10), (.str s11), (.int .i64 n12), (.int .i64 (A.wrap .i64 (A.add n3 n7)))]] 40) then
        some (.inl [(.str s2), (.int .i64 (A.wrap .i64 (A.add (A.wrap .i64 (A.add n3 n7)) n14))), (.sl 4 (A.rapp l4 [[(.int .i64 n10), (.str s11), (.int .i64 n12), (.int .i64 (A.wrap .i64 (A.add n3 n7)))]]))])
       else
        none
     else
      none
   else
    none
  ) [(.str s_), (.int .i64 0), (.sl 4 [])]
theorem g8_eq (A : Sy) (E : Env) (s_ : ByteArray) (most_ : Int) : (funT A Tryz.prog cs 8 [V.d (.str s_), V.d (.int .i64 most_)]).run E = g8 A E s_ most_ := by kernel_rfl
def g11 (A : Sy) (E : Env) (e_ : Int) : Option PRes :=
 some (PRes.val [(.int .i64 e_)])
theorem g11_eq (A : Sy) (E : Env) (e_ : Int) : (funT A Tryz.prog cs 11 [V.d (.int .i64 e_)]).run E = g11 A E e_ := by kernel_rfl
def g7 (A : Sy) (E : Env) : Option PRes :=
 (E.call 8 [(.d (.str (bs [120, 32, 58, 61, 32, 45, 49, 59, 32, 45, 45, 32, 121]))), (.d (.int .i64 50))]).bind fun p1 =>
 (opL (A.cell p1.leaves 0) 4).bind fun l3 =>
 (opI (A.cell p1.leaves 1) .i64).bind fun n4 =>
 (opI (A.cell p1.leaves 2) .i64).bind fun n5 =>
 (E.call 11 [(.d (.int .i64 n5))]).bind fun p6 =>
 (opI (A.cell p6.leaves 0) .i64).bind fun n8 =>
 cutO (
  bif (A.ieq n8 0) then
   some (.inl [(.bool (A.ieq n4 13))])
  else
   some (.inl [(.bool false)])
 ) fun ds9 =>
 (opB (A.cell ds9 0)).bind fun b10 =>
 cutO (
  bif b10 then
   some (.inl [(.bool (A.ieq (A.rlen l3) 6))])
  else
   some (.inl [(.bool false)])
 ) fun ds11 =>
 (opB (A.cell ds11 0)).bind fun b12 =>
 cutO (
  bif b12 then
   bif (A.inr 1 (A.rlen l3)) then
    (opS (A.cell (A.skip 1 (A.row l3 1)) 0)).bind fun s13 =>
    some (.inl [(.bool (A.seq s13 (bs [58, 61])))])
   else
    none
  else
   some (.inl [(.bool false)])
 ) fun ds14 =>
 (opB (A.cell ds14 0)).bind fun b15 =>
 cutO (
  bif b15 then
   bif (A.inr 3 (A.rlen l3)) then
    (opI (A.cell (A.skip 2 (A.row l3 3)) 0) .i64).bind fun n16 =>
    some (.inl [(.bool (A.ieq n16 1))])
   else
    none
  else
   some (.inl [(.bool false)])
 ) fun ds17 =>
 (opB (A.cell ds17 0)).bind fun b18 =>
 cutO (
  bif b18 then
   bif (A.inr 5 (A.rlen l3)) then
    (opI (A.cell (A.row l3 5) 0) .i64).bind fun n19 =>
    some (.inl [(.bool (A.ieq n19 6))])
   else
    none
  else
   some (.inl [(.bool false)])
 ) fun ds20 =>
 (opB (A.cell ds20 0)).bind fun b21 =>
 cutO (
  bif b21 then
   bif (A.inr 5 (A.rlen l3)) then
    (opI (A.cell (A.skip 3 (A.row l3 5)) 0) .i64).bind fun n22 =>
    some (.inl [(.bool (A.ieq n22 13))])
   else
    none
  else
   some (.inl [(.bool false)])
 ) fun ds23 =>
 (opB (A.cell ds23 0)).bind fun b24 =>
 some (PRes.val [(.bool b24)])
theorem g7_eq (A : Sy) (E : Env) : (funT A Tryz.prog cs 7 []).run E = g7 A E  := by kernel_rfl
def g50 (A : Sy) (E : Env) (s_ : ByteArray) (prefix_ : ByteArray) : Option PRes :=
 (E.call 92 [(.d (.str s_)), (.d (.str prefix_))]).bind fun p1 =>
 (opB (A.cell p1.leaves 0)).bind fun b3 =>
 some (PRes.val [(.bool b3)])
theorem g50_eq (A : Sy) (E : Env) (s_ : ByteArray) (prefix_ : ByteArray) : (funT A Tryz.prog cs 50 [V.d (.str s_), V.d (.str prefix_)]).run E = g50 A E s_ prefix_ := by kernel_rfl
def g92 (A : Sy) (E : Env) (s_ : ByteArray) (prefix_ : ByteArray) : Option PRes :=
 bif (A.ile (A.slen prefix_) (A.slen s_)) then
  bif (A.cutok 0 (A.slen prefix_) (A.slen s_)) then
   some (PRes.val [(.bool (A.seq (A.scut s_ 0 (A.slen prefix_)) prefix_))])
  else
   none
 else
  some (PRes.val [(.bool false)])
theorem g92_eq (A : Sy) (E : Env) (s_ : ByteArray) (prefix_ : ByteArray) : (funT A Tryz.prog cs 92 [V.d (.str s_), V.d (.str prefix_)]).run E = g92 A E s_ prefix_ := by kernel_rfl
def g100 (A : Sy) (E : Env) (s_ : ByteArray) (c_ : Int) : Option PRes :=
 (E.call 133 [(.d (.str s_)), (.d (.int .u8 c_))]).bind fun p1 =>
 (opI (A.cell p1.leaves 0) .i64).bind fun n3 =>
 some (PRes.val [(.int .i64 n3)])
theorem g100_eq (A : Sy) (E : Env) (s_ : ByteArray) (c_ : Int) : (funT A Tryz.prog cs 100 [V.d (.str s_), V.d (.int .u8 c_)]).run E = g100 A E s_ c_ := by kernel_rfl
end Go.Vm
end

section
set_option maxRecDepth 1000000
set_option maxHeartbeats 0
namespace Go.Vm
open Go.Proofs
def g127 (A : Sy) (E : Env) (c_ : Int) : Option PRes :=
 cutO (
  bif (A.ile 97 c_) then
   some (.inl [(.bool (A.ile c_ 122))])
  else
   some (.inl [(.bool false)])
 ) fun ds1 =>
 (opB (A.cell ds1 0)).bind fun b2 =>
 some (PRes.val [(.bool b2)])
theorem g127_eq (A : Sy) (E : Env) (c_ : Int) : (funT A Tryz.prog cs 127 [V.d (.int .i32 c_)]).run E = g127 A E c_ := by kernel_rfl
def g126 (A : Sy) (E : Env) (c_ : Int) : Option PRes :=
 cutO (
  bif (A.ile 65 c_) then
   some (.inl [(.bool (A.ile c_ 90))])
  else
   some (.inl [(.bool false)])
 ) fun ds1 =>
 (opB (A.cell ds1 0)).bind fun b2 =>
 some (PRes.val [(.bool b2)])
theorem g126_eq (A : Sy) (E : Env) (c_ : Int) : (funT A Tryz.prog cs 126 [V.d (.int .i32 c_)]).run E = g126 A E c_ := by kernel_rfl
def g137 (A : Sy) (E : Env) (c_ : Int) : Option PRes :=
 cutO (
  bif (A.ile 48 c_) then
   some (.inl [(.bool (A.ile c_ 57))])
  else
   some (.inl [(.bool false)])
 ) fun ds1 =>
 (opB (A.cell ds1 0)).bind fun b2 =>
 some (PRes.val [(.bool b2)])
theorem g137_eq (A : Sy) (E : Env) (c_ : Int) : (funT A Tryz.prog cs 137 [V.d (.int .i32 c_)]).run E = g137 A E c_ := by kernel_rfl
def g96 (A : Sy) (E : Env) (s_ : ByteArray) : Option PRes :=
 bif (A.seq s_ (bs [110, 111, 100, 101])) then
  some (PRes.val [(.bool true)])
 else
  bif (A.seq s_ (bs [114, 101, 116, 117, 114, 110, 115])) then
   some (PRes.val [(.bool true)])
  else
   bif (A.seq s_ (bs [118, 97, 114])) then
    some (PRes.val [(.bool true)])
   else
    bif (A.seq s_ (bs [108, 101, 116])) then
     some (PRes.val [(.bool true)])
    else
     bif (A.seq s_ (bs [116, 101, 108])) then
      some (PRes.val [(.bool true)])
     else
      bif (A.seq s_ (bs [101, 110, 117, 109])) then
       some (PRes.val [(.bool true)])
      else
       bif (A.seq s_ (bs [105, 102])) then
        some (PRes.val [(.bool true)])
       else
        bif (A.seq s_ (bs [116, 104, 101, 110])) then
         some (PRes.val [(.bool true)])
        else
         bif (A.seq s_ (bs [101, 108, 115, 101])) then
          some (PRes.val [(.bool true)])
         else
          bif (A.seq s_ (bs [102, 98, 121])) then
           some (PRes.val [(.bool true)])
          else
           bif (A.seq s_ (bs [112, 114, 101])) then
            some (PRes.val [(.bool true)])
           else
            bif (A.seq s_ (bs [119, 104, 101, 110])) then
             some (PRes.val [(.bool true)])
            else
             bif (A.seq s_ (bs [109, 101, 114, 103, 101])) then
              some (PRes.val [(.bool true)])
             else
              bif (A.seq s_ (bs [101, 118, 101, 114, 121])) then
               some (PRes.val [(.bool true)])
              else
               bif (A.seq s_ (bs [110, 111, 116])) then
                some (PRes.val [(.bool true)])
               else
                bif (A.seq s_ (bs [97, 110, 100])) then
                 some (PRes.val [(.bool true)])
                else
                 bif (A.seq s_ (bs [111, 114])) then
                  some (PRes.val [(.bool true)])
                 else
                  bif (A.seq s_ (bs [120, 111, 114])) then
                   some (PRes.val [(.bool true)])
                  else
                   bif (A.seq s_ (bs [109, 111, 100])) then
                    some (PRes.val [(.bool true)])
                   else
                    bif (A.seq s_ (bs [116, 114, 117, 101])) then
                     some (PRes.val [(.bool true)])
                    else
                     bif (A.seq s_ (bs [102, 97, 108, 115, 101])) then
                      some (PRes.val [(.bool true)])
                     else
                      bif (A.seq s_ (bs [105, 110, 116])) then
                       some (PRes.val [(.bool true)])
                      else
                       bif (A.seq s_ (bs [98, 111, 111, 108])) then
                        some (PRes.val [(.bool true)])
                       else
                        bif (A.seq s_ (bs [119, 105, 116, 104])) then
                         some (PRes.val [(.bool true)])
                        else
                         some (PRes.val [(.bool false)])
theorem g96_eq (A : Sy) (E : Env) (s_ : ByteArray) : (funT A Tryz.prog cs 96 [V.d (.str s_)]).run E = g96 A E s_ := by kernel_rfl
def g125_127 (A : Sy) (E : Env)(s_ : ByteArray) : Option PRes :=
 E.lp (fun ds1 =>
  (opS (A.cell ds1 0)).bind fun s2 =>
  (opS (A.cell ds1 1)).bind fun s3 =>
  (opI (A.cell ds1 2) .i64).bind fun n4 =>
  bif (A.ilt n4 (A.slen s3)) then
   bif (A.ieq n4 0) then
    (E.call 127 [(.d (.int .i32 (A.rdec s3 n4)))]).bind fun p5 =>
    (opB (A.cell p5.leaves 0)).bind fun b7 =>
    cutO (
     bif (A.bnot b7) then
      some (.inl [(.bool true)])
     else
      (E.call 127 [(.d (.int .i32 (A.rdec s3 n4)))]).bind fun p8 =>
      (opB (A.cell p8.leaves 0)).bind fun b10 =>
      bif (A.bnot b10) then
       (E.call 126 [(.d (.int .i32 (A.rdec s3 n4)))]).bind fun p11 =>
       (opB (A.cell p11.leaves 0)).bind fun b13 =>
       bif (A.bnot b13) then
        (E.call 137 [(.d (.int .i32 (A.rdec s3 n4)))]).bind fun p14 =>
        (opB (A.cell p14.leaves 0)).bind fun b16 =>
        bif (A.bnot b16) then
         some (.inl [(.bool (A.bnot (A.ieq (A.rdec s3 n4) 95)))])
        else
         some (.inl [(.bool false)])
       else
        some (.inl [(.bool false)])
      else
       some (.inl [(.bool false)])
    ) fun ds17 =>
    (opB (A.cell ds17 0)).bind fun b18 =>
    bif b18 then
     some (.inr (PRes.val [(.bool false)]))
    else
     some (.inl [(.str s2), (.str s3), (.int .i64 (A.add n4 (A.rwid s3 n4)))])
   else
    cutO (
     (E.call 127 [(.d (.int .i32 (A.rdec s3 n4)))]).bind fun p19 =>
     (opB (A.cell p19.leaves 0)).bind fun b21 =>
     bif (A.bnot b21) then
      (E.call 126 [(.d (.int .i32 (A.rdec s3 n4)))]).bind fun p22 =>
      (opB (A.cell p22.leaves 0)).bind fun b24 =>
      bif (A.bnot b24) then
       (E.call 137 [(.d (.int .i32 (A.rdec s3 n4)))]).bind fun p25 =>
       (opB (A.cell p25.leaves 0)).bind fun b27 =>
       bif (A.bnot b27) then
        some (.inl [(.bool (A.bnot (A.ieq (A.rdec s3 n4) 95)))])
       else
        some (.inl [(.bool false)])
      else
       some (.inl [(.bool false)])
     else
      some (.inl [(.bool false)])
    ) fun ds28 =>
    (opB (A.cell ds28 0)).bind fun b29 =>
    bif b29 then
     some (.inr (PRes.val [(.bool false)]))
    else
     some (.inl [(.str s2), (.str s3), (.int .i64 (A.add n4 (A.rwid s3 n4)))])
  else
   cutO (
    bif (A.ile 1 (A.slen s2)) then
     some (.inl [(.bool (A.ile (A.slen s2) 12))])
    else
     some (.inl [(.bool false)])
   ) fun ds30 =>
   (opB (A.cell ds30 0)).bind fun b31 =>
   some (.inr (PRes.val [(.bool b31)]))
 ) [(.str s_), (.str s_), (.int .i64 0)]
theorem g125_127_eq (A : Sy) (E : Env)(s_ : ByteArray) : (funT A Tryz.prog cs 125 [V.d (.str s_), V.fn 127 []]).run E = g125_127 A E s_ := by kernel_rfl
def g125_126 (A : Sy) (E : Env)(s_ : ByteArray) : Option PRes :=
 E.lp (fun ds1 =>
  (opS (A.cell ds1 0)).bind fun s2 =>
  (opS (A.cell ds1 1)).bind fun s3 =>
  (opI (A.cell ds1 2) .i64).bind fun n4 =>
  bif (A.ilt n4 (A.slen s3)) then
   bif (A.ieq n4 0) then
    (E.call 126 [(.d (.int .i32 (A.rdec s3 n4)))]).bind fun p5 =>
    (opB (A.cell p5.leaves 0)).bind fun b7 =>
    cutO (
     bif (A.bnot b7) then
      some (.inl [(.bool true)])
     else
      (E.call 127 [(.d (.int .i32 (A.rdec s3 n4)))]).bind fun p8 =>
      (opB (A.cell p8.leaves 0)).bind fun b10 =>
      bif (A.bnot b10) then
       (E.call 126 [(.d (.int .i32 (A.rdec s3 n4)))]).bind fun p11 =>
       (opB (A.cell p11.leaves 0)).bind fun b13 =>
       bif (A.bnot b13) then
        (E.call 137 [(.d (.int .i32 (A.rdec s3 n4)))]).bind fun p14 =>
        (opB (A.cell p14.leaves 0)).bind fun b16 =>
        bif (A.bnot b16) then
         some (.inl [(.bool (A.bnot (A.ieq (A.rdec s3 n4) 95)))])
        else
         some (.inl [(.bool false)])
       else
        some (.inl [(.bool false)])
      else
       some (.inl [(.bool false)])
    ) fun ds17 =>
    (opB (A.cell ds17 0)).bind fun b18 =>
    bif b18 then
     some (.inr (PRes.val [(.bool false)]))
    else
     some (.inl [(.str s2), (.str s3), (.int .i64 (A.add n4 (A.rwid s3 n4)))])
   else
    cutO (
     (E.call 127 [(.d (.int .i32 (A.rdec s3 n4)))]).bind fun p19 =>
     (opB (A.cell p19.leaves 0)).bind fun b21 =>
     bif (A.bnot b21) then
      (E.call 126 [(.d (.int .i32 (A.rdec s3 n4)))]).bind fun p22 =>
      (opB (A.cell p22.leaves 0)).bind fun b24 =>
      bif (A.bnot b24) then
       (E.call 137 [(.d (.int .i32 (A.rdec s3 n4)))]).bind fun p25 =>
       (opB (A.cell p25.leaves 0)).bind fun b27 =>
       bif (A.bnot b27) then
        some (.inl [(.bool (A.bnot (A.ieq (A.rdec s3 n4) 95)))])
       else
        some (.inl [(.bool false)])
      else
       some (.inl [(.bool false)])
     else
      some (.inl [(.bool false)])
    ) fun ds28 =>
    (opB (A.cell ds28 0)).bind fun b29 =>
    bif b29 then
     some (.inr (PRes.val [(.bool false)]))
    else
     some (.inl [(.str s2), (.str s3), (.int .i64 (A.add n4 (A.rwid s3 n4)))])
  else
   cutO (
    bif (A.ile 1 (A.slen s2)) then
     some (.inl [(.bool (A.ile (A.slen s2) 12))])
    else
     some (.inl [(.bool false)])
   ) fun ds30 =>
   (opB (A.cell ds30 0)).bind fun b31 =>
   some (.inr (PRes.val [(.bool b31)]))
 ) [(.str s_), (.str s_), (.int .i64 0)]
theorem g125_126_eq (A : Sy) (E : Env)(s_ : ByteArray) : (funT A Tryz.prog cs 125 [V.d (.str s_), V.fn 126 []]).run E = g125_126 A E s_ := by kernel_rfl
def g95 (A : Sy) (E : Env) (s_ : ByteArray) : Option PRes :=
 (E.call 125 [(.d (.str s_)), (.fn 127 [])]).bind fun p1 =>
 (opB (A.cell p1.leaves 0)).bind fun b3 =>
 cutO (
  bif b3 then
   (E.call 96 [(.d (.str s_))]).bind fun p4 =>
   (opB (A.cell p4.leaves 0)).bind fun b6 =>
   some (.inl [(.bool (A.bnot b6))])
  else
   some (.inl [(.bool false)])
 ) fun ds7 =>
 (opB (A.cell ds7 0)).bind fun b8 =>
 some (PRes.val [(.bool b8)])
theorem g95_eq (A : Sy) (E : Env) (s_ : ByteArray) : (funT A Tryz.prog cs 95 [V.d (.str s_)]).run E = g95 A E s_ := by kernel_rfl
def g94 (A : Sy) (E : Env) (s_ : ByteArray) : Option PRes :=
 (E.call 125 [(.d (.str s_)), (.fn 126 [])]).bind fun p1 =>
 (opB (A.cell p1.leaves 0)).bind fun b3 =>
 some (PRes.val [(.bool b3)])
theorem g94_eq (A : Sy) (E : Env) (s_ : ByteArray) : (funT A Tryz.prog cs 94 [V.d (.str s_)]).run E = g94 A E s_ := by kernel_rfl
def g105 (A : Sy) (E : Env) (s_ : ByteArray) : Option PRes :=
 E.lp (fun ds1 =>
  (opS (A.cell ds1 0)).bind fun s2 =>
  (opS (A.cell ds1 1)).bind fun s3 =>
  (opI (A.cell ds1 2) .i64).bind fun n4 =>
  bif (A.ilt n4 (A.slen s3)) then
   (E.call 137 [(.d (.int .i32 (A.rdec s3 n4)))]).bind fun p5 =>
   (opB (A.cell p5.leaves 0)).bind fun b7 =>
   cutO (
    bif (A.bnot b7) then
     some (.inl [(.bool true)])
    else
     bif (A.ieq n4 0) then
      some (.inl [(.bool (A.ieq (A.rdec s3 n4) 48))])
     else
      some (.inl [(.bool false)])
   ) fun ds8 =>
   (opB (A.cell ds8 0)).bind fun b9 =>
   bif b9 then
    some (.inr (PRes.val [(.bool false)]))
   else
    some (.inl [(.str s2), (.str s3), (.int .i64 (A.add n4 (A.rwid s3 n4)))])
  else
   cutO (
    bif (A.ile 1 (A.slen s2)) then
     some (.inl [(.bool (A.ile (A.slen s2) 3))])
    else
     some (.inl [(.bool false)])
   ) fun ds10 =>
   (opB (A.cell ds10 0)).bind fun b11 =>
   some (.inr (PRes.val [(.bool b11)]))
 ) [(.str s_), (.str s_), (.int .i64 0)]
theorem g105_eq (A : Sy) (E : Env) (s_ : ByteArray) : (funT A Tryz.prog cs 105 [V.d (.str s_)]).run E = g105 A E s_ := by kernel_rfl
def g68 (A : Sy) (E : Env) (s_ : ByteArray) : Option PRes :=
 (E.call 104 [(.d (.str s_)), (.d (.str (bs [46])))]).bind fun p1 =>
 (opS (A.cell p1.leaves 0)).bind fun s3 =>
 (opS (A.cell p1.leaves 1)).bind fun s4 =>
 (opB (A.cell p1.leaves 2)).bind fun b5 =>
 (E.call 95 [(.d (.str s3))]).bind fun p6 =>
 (opB (A.cell p6.leaves 0)).bind fun b8 =>
 cutO (
  bif b8 then
   bif (A.bnot b5) then
    some (.inl [(.bool true)])
   else
    (E.call 105 [(.d (.str s4))]).bind fun p9 =>
    (opB (A.cell p9.leaves 0)).bind fun b11 =>
    some (.inl [(.bool b11)])
  else
   some (.inl [(.bool false)])
 ) fun ds12 =>
 (opB (A.cell ds12 0)).bind fun b13 =>
 some (PRes.val [(.bool b13)])
theorem g68_eq (A : Sy) (E : Env) (s_ : ByteArray) : (funT A Tryz.prog cs 68 [V.d (.str s_)]).run E = g68 A E s_ := by kernel_rfl
def g30 (A : Sy) (E : Env) (s_ : ByteArray) : Option PRes :=
 (E.call 67 [(.d (.str s_)), (.d (.str (bs [47])))]).bind fun p1 =>
 (opL (A.cell p1.leaves 0) 1).bind fun l3 =>
 E.lp (fun ds4 =>
  (opL (A.cell ds4 0) 1).bind fun l5 =>
  (opI (A.cell ds4 1) .i64).bind fun n6 =>
  (opI (A.cell ds4 2) .i64).bind fun n7 =>
  bif (A.ilt n7 n6) then
   bif (A.inr n7 (A.rlen l5)) then
    (opS (A.cell (A.row l5 n7) 0)).bind fun s8 =>
    (E.call 68 [(.d (.str s8))]).bind fun p9 =>
    (opB (A.cell p9.leaves 0)).bind fun b11 =>
    bif (A.bnot b11) then
     some (.inr (PRes.val [(.bool false)]))
    else
     some (.inl [(.sl 1 l5), (.int .i64 n6), (.int .i64 (A.wrap .i64 (A.add n7 1)))])
   else
    none
  else
   some (.inr (PRes.val [(.bool true)]))
 ) [(.sl 1 l3), (.int .i64 (A.rlen l3)), (.int .i64 0)]
theorem g30_eq (A : Sy) (E : Env) (s_ : ByteArray) : (funT A Tryz.prog cs 30 [V.d (.str s_)]).run E = g30 A E s_ := by kernel_rfl
def g104 (A : Sy) (E : Env) (s_ : ByteArray) (sep_ : ByteArray) : Option PRes :=
 (E.call 136 [(.d (.str s_)), (.d (.str sep_))]).bind fun p1 =>
 (opS (A.cell p1.leaves 0)).bind fun s3 =>
 (opS (A.cell p1.leaves 1)).bind fun s4 =>
 (opB (A.cell p1.leaves 2)).bind fun b5 =>
 some (PRes.val [(.str s3), (.str s4), (.bool b5)])
theorem g104_eq (A : Sy) (E : Env) (s_ : ByteArray) (sep_ : ByteArray) : (funT A Tryz.prog cs 104 [V.d (.str s_), V.d (.str sep_)]).run E = g104 A E s_ sep_ := by kernel_rfl
def g136 (A : Sy) (E : Env) (s_ : ByteArray) (sep_ : ByteArray) : Option PRes :=
 (E.call 130 [(.d (.str s_)), (.d (.str sep_))]).bind fun p1 =>
 (opI (A.cell p1.leaves 0) .i64).bind fun n3 =>
 bif (A.ile 0 n3) then
  bif (A.cutok 0 n3 (A.slen s_)) then
   bif (A.cutok (A.wrap .i64 (A.add n3 (A.slen sep_))) (A.slen s_) (A.slen s_)) then
    some (PRes.val [(.str (A.scut s_ 0 n3)), (.str (A.scut s_ (A.wrap .i64 (A.add n3 (A.slen sep_))) (A.slen s_))), (.bool true)])
   else
    none
  else
   none
 else
  some (PRes.val [(.str s_), (.str (bs [])), (.bool false)])
theorem g136_eq (A : Sy) (E : Env) (s_ : ByteArray) (sep_ : ByteArray) : (funT A Tryz.prog cs 136 [V.d (.str s_), V.d (.str sep_)]).run E = g136 A E s_ sep_ := by kernel_rfl
def g98 (A : Sy) (E : Env) (s_ : ByteArray) (substr_ : ByteArray) : Option PRes :=
 (E.call 130 [(.d (.str s_)), (.d (.str substr_))]).bind fun p1 =>
 (opI (A.cell p1.leaves 0) .i64).bind fun n3 =>
 some (PRes.val [(.int .i64 n3)])
theorem g98_eq (A : Sy) (E : Env) (s_ : ByteArray) (substr_ : ByteArray) : (funT A Tryz.prog cs 98 [V.d (.str s_), V.d (.str substr_)]).run E = g98 A E s_ substr_ := by kernel_rfl
def g130 (A : Sy) (E : Env) (s_ : ByteArray) (substr_ : ByteArray) : Option PRes :=
 cutO (
  bif (A.ieq (A.slen substr_) 0) then
   some (.inl [(.bool true)])
  else
   some (.inl [(.bool (A.seq substr_ s_))])
 ) fun ds1 =>
 (opB (A.cell ds1 0)).bind fun b2 =>
 bif b2 then
  some (PRes.val [(.int .i64 0)])
 else
  bif (A.ieq (A.slen substr_) 1) then
   bif (A.inr 0 (A.slen substr_)) then
    (E.call 133 [(.d (.str s_)), (.d (.int .u8 (A.sbyte substr_ 0)))]).bind fun p3 =>
    (opI (A.cell p3.leaves 0) .i64).bind fun n5 =>
    some (PRes.val [(.int .i64 n5)])
   else
    none
  else
   bif (A.ile (A.slen s_) (A.slen substr_)) then
    some (PRes.val [(.int .i64 (-1))])
   else
    none
theorem g130_eq (A : Sy) (E : Env) (s_ : ByteArray) (substr_ : ByteArray) : (funT A Tryz.prog cs 130 [V.d (.str s_), V.d (.str substr_)]).run E = g130 A E s_ substr_ := by kernel_rfl
def g133 (A : Sy) (E : Env) (s_ : ByteArray) (c_ : Int) : Option PRes :=
 some (PRes.val [(.int .i64 (A.sidx s_ c_))])
theorem g133_eq (A : Sy) (E : Env) (s_ : ByteArray) (c_ : Int) : (funT A Tryz.prog cs 133 [V.d (.str s_), V.d (.int .u8 c_)]).run E = g133 A E s_ c_ := by kernel_rfl
def g135 (A : Sy) (E : Env) (s_ : ByteArray) (substr_ : ByteArray) : Option PRes :=
 bif (A.ieq (A.slen substr_) 0) then
  (E.call 161 [(.d (.str s_))]).bind fun p1 =>
  (opI (A.cell p1.leaves 0) .i64).bind fun n3 =>
  some (PRes.val [(.int .i64 (A.wrap .i64 (A.add n3 1)))])
 else
  bif (A.ieq (A.slen substr_) 1) then
   bif (A.inr 0 (A.slen substr_)) then
    some (PRes.val [(.int .i64 (A.scnt s_ (A.sbyte substr_ 0)))])
   else
    none
  else
   E.lp (fun ds4 =>
    (opS (A.cell ds4 0)).bind fun s5 =>
    (opS (A.cell ds4 1)).bind fun s6 =>
    (opI (A.cell ds4 2) .i64).bind fun n7 =>
    (E.call 98 [(.d (.str s5)), (.d (.str s6))]).bind fun p8 =>
    (opI (A.cell p8.leaves 0) .i64).bind fun n10 =>
    bif (A.ieq n10 (-1)) then
     some (.inr (PRes.val [(.int .i64 n7)]))
    else
     bif (A.cutok (A.wrap .i64 (A.add n10 (A.slen s6))) (A.slen s5) (A.slen s5)) then
      some (.inl [(.str (A.scut s5 (A.wrap .i64 (A.add n10 (A.slen s6))) (A.slen s5))), (.str s6), (.int .i64 (A.wrap .i64 (A.add n7 1)))])
     else
      none
   ) [(.str s_), (.str substr_), (.int .i64 0)]
theorem g135_eq (A : Sy) (E : Env) (s_ : ByteArray) (substr_ : ByteArray) : (funT A Tryz.prog cs 135 [V.d (.str s_), V.d (.str substr_)]).run E = g135 A E s_ substr_ := by kernel_rfl
def g67 (A : Sy) (E : Env) (s_ : ByteArray) (sep_ : ByteArray) : Option PRes :=
 (E.call 103 [(.d (.str s_)), (.d (.str sep_)), (.d (.int .i64 0)), (.d (.int .i64 (-1)))]).bind fun p1 =>
 (opL (A.cell p1.leaves 0) 1).bind fun l3 =>
 some (PRes.val [(.sl 1 l3)])
theorem g67_eq (A : Sy) (E : Env) (s_ : ByteArray) (sep_ : ByteArray) : (funT A Tryz.prog cs 67 [V.d (.str s_), V.d (.str sep_)]).run E = g67 A E s_ sep_ := by kernel_rfl
def g103 (A : Sy) (E : Env) (s_ : ByteArray) (sep_ : ByteArray) (sepSave_ : Int) (n_ : Int) : Option PRes :=
 bif (A.ieq n_ 0) then
  some (PRes.own 9 1 [])
 else
  bif (A.seq sep_ (bs [])) then
   (E.call 134 [(.d (.str s_)), (.d (.int .i64 n_))]).bind fun p1 =>
   (opL (A.cell p1.leaves 0) 1).bind fun l3 =>
   some (PRes.val [(.sl 1 l3)])
  else
   bif (A.ilt n_ 0) then
    (E.call 135 [(.d (.str s_)), (.d (.str sep_))]).bind fun p4 =>
    (opI (A.cell p4.leaves 0) .i64).bind fun n6 =>
    bif (A.mkok (A.imin (A.wrap .i64 (A.add n6 1)) (A.wrap .i64 (A.add (A.slen s_) 1))) (A.imin (A.wrap .i64 (A.add n6 1)) (A.wrap .i64 (A.add (A.slen s_) 1))) 16) then
     E.lp (fun ds7 =>
      (opS (A.cell ds7 0)).bind fun s8 =>
      (opS (A.cell ds7 1)).bind fun s9 =>
      (opI (A.cell ds7 2) .i64).bind fun n10 =>
      (opI (A.cell ds7 3) .i64).bind fun n11 =>
      (opI (A.cell ds7 4) .i64).bind fun n12 =>
      (opL (A.cell ds7 5) 1).bind fun l13 =>
      bif (A.ilt n12 n11) then
       (E.call 98 [(.d (.str s8)), (.d (.str s9))]).bind fun p14 =>
       (opI (A.cell p14.leaves 0) .i64).bind fun n16 =>
       bif (A.ilt n16 0) then
        bif (A.inr n12 (A.rlen l13)) then
         bif (A.inrn (A.nat n12) l13) then
          bif (A.cutok 0 (A.wrap .i64 (A.add n12 1)) (A.rlen (A.rput l13 (A.nat n12) 0 [(.str s8)]))) then
           some (.inr (PRes.own 9 1 (A.head (A.rput l13 (A.nat n12) 0 [(.str s8)]) (A.wrap .i64 (A.add n12 1)))))
          else
           none
         else
          none
        else
         none
       else
        bif (A.cutok 0 (A.wrap .i64 (A.add n16 n10)) (A.slen s8)) then
         bif (A.inr n12 (A.rlen l13)) then
          bif (A.inrn (A.nat n12) l13) then
           bif (A.cutok (A.wrap .i64 (A.add n16 (A.slen s9))) (A.slen s8) (A.slen s8)) then
            some (.inl [(.str (A.scut s8 (A.wrap .i64 (A.add n16 (A.slen s9))) (A.slen s8))), (.str s9), (.int .i64 n10), (.int .i64 n11), (.int .i64 (A.wrap .i64 (A.add n12 1))), (.sl 1 (A.rput l13 (A.nat n12) 0 [(.str (A.scut s8 0 (A.wrap .i64 (A.add n16 n10))))]))])
           else
            none
          else
           none
         else
          none
        else
         none
      else
       bif (A.inr n12 (A.rlen l13)) then
        bif (A.inrn (A.nat n12) l13) then
         bif (A.cutok 0 (A.wrap .i64 (A.add n12 1)) (A.rlen (A.rput l13 (A.nat n12) 0 [(.str s8)]))) then
          some (.inr (PRes.own 9 1 (A.head (A.rput l13 (A.nat n12) 0 [(.str s8)]) (A.wrap .i64 (A.add n12 1)))))
         else
          none
        else
         none
       else
        none
     ) [(.str s_), (.str sep_), (.int .i64 sepSave_), (.int .i64 (A.wrap .i64 (A.sub (A.imin (A.wrap .i64 (A.add n6 1)) (A.wrap .i64 (A.add (A.slen s_) 1))) 1))), (.int .i64 0), (.sl 1 (A.rep (A.imin (A.wrap .i64 (A.add n6 1)) (A.wrap .i64 (A.add (A.slen s_) 1))) [(.str (bs []))]))]
    else
     none
   else
    bif (A.mkok (A.imin n_ (A.wrap .i64 (A.add (A.slen s_) 1))) (A.imin n_ (A.wrap .i64 (A.add (A.slen s_) 1))) 16) then
     E.lp (fun ds17 =>
      (opS (A.cell ds17 0)).bind fun s18 =>
      (opS (A.cell ds17 1)).bind fun s19 =>
      (opI (A.cell ds17 2) .i64).bind fun n20 =>
      (opI (A.cell ds17 3) .i64).bind fun n21 =>
      (opI (A.cell ds17 4) .i64).bind fun n22 =>
      (opL (A.cell ds17 5) 1).bind fun l23 =>
      bif (A.ilt n22 n21) then
       (E.call 98 [(.d (.str s18)), (.d (.str s19))]).bind fun p24 =>
       (opI (A.cell p24.leaves 0) .i64).bind fun n26 =>
       bif (A.ilt n26 0) then
        bif (A.inr n22 (A.rlen l23)) then
         bif (A.inrn (A.nat n22) l23) then
          bif (A.cutok 0 (A.wrap .i64 (A.add n22 1)) (A.rlen (A.rput l23 (A.nat n22) 0 [(.str s18)]))) then
           some (.inr (PRes.own 9 1 (A.head (A.rput l23 (A.nat n22) 0 [(.str s18)]) (A.wrap .i64 (A.add n22 1)))))
          else
           none
         else
          none
        else
         none
       else
        bif (A.cutok 0 (A.wrap .i64 (A.add n26 n20)) (A.slen s18)) then
         bif (A.inr n22 (A.rlen l23)) then
          bif (A.inrn (A.nat n22) l23) then
           bif (A.cutok (A.wrap .i64 (A.add n26 (A.slen s19))) (A.slen s18) (A.slen s18)) then
            some (.inl [(.str (A.scut s18 (A.wrap .i64 (A.add n26 (A.slen s19))) (A.slen s18))), (.str s19), (.int .i64 n20), (.int .i64 n21), (.int .i64 (A.wrap .i64 (A.add n22 1))), (.sl 1 (A.rput l23 (A.nat n22) 0 [(.str (A.scut s18 0 (A.wrap .i64 (A.add n26 n20))))]))])
           else
            none
          else
           none
         else
          none
        else
         none
      else
       bif (A.inr n22 (A.rlen l23)) then
        bif (A.inrn (A.nat n22) l23) then
         bif (A.cutok 0 (A.wrap .i64 (A.add n22 1)) (A.rlen (A.rput l23 (A.nat n22) 0 [(.str s18)]))) then
          some (.inr (PRes.own 9 1 (A.head (A.rput l23 (A.nat n22) 0 [(.str s18)]) (A.wrap .i64 (A.add n22 1)))))
         else
          none
        else
         none
       else
        none
     ) [(.str s_), (.str sep_), (.int .i64 sepSave_), (.int .i64 (A.wrap .i64 (A.sub (A.imin n_ (A.wrap .i64 (A.add (A.slen s_) 1))) 1))), (.int .i64 0), (.sl 1 (A.rep (A.imin n_ (A.wrap .i64 (A.add (A.slen s_) 1))) [(.str (bs []))]))]
    else
     none
theorem g103_eq (A : Sy) (E : Env) (s_ : ByteArray) (sep_ : ByteArray) (sepSave_ : Int) (n_ : Int) : (funT A Tryz.prog cs 103 [V.d (.str s_), V.d (.str sep_), V.d (.int .i64 sepSave_), V.d (.int .i64 n_)]).run E = g103 A E s_ sep_ sepSave_ n_ := by kernel_rfl
end Go.Vm
end

section
set_option maxRecDepth 1000000
set_option maxHeartbeats 0
namespace Go.Vm
open Go.Proofs
def g3 (A : Sy) (E : Env) (s_ : ByteArray) (most_ : Int) : Option PRes :=
 bif (A.ilt 600 (A.slen s_)) then
  (E.call 7 []).bind fun p1 =>
  (opB (A.cell p1.leaves 0)).bind fun b3 =>
  some (PRes.val [(.bool b3)])
 else
  (E.call 8 [(.d (.str s_)), (.d (.int .i64 most_))]).bind fun p4 =>
  (opL (A.cell p4.leaves 0) 4).bind fun l6 =>
  (opI (A.cell p4.leaves 1) .i64).bind fun n7 =>
  (opI (A.cell p4.leaves 2) .i64).bind fun n8 =>
  (E.call 9 [(.d (.str s_)), (.d (.int .i64 most_))]).bind fun p9 =>
  (opL (A.cell p9.leaves 0) 4).bind fun l11 =>
  (opI (A.cell p9.leaves 1) .i64).bind fun n12 =>
  (opI (A.cell p9.leaves 2) .i64).bind fun n13 =>
  (E.call 10 [(.d (.sl 4 l6)), (.d (.sl 4 l11))]).bind fun p14 =>
  (opB (A.cell p14.leaves 0)).bind fun b16 =>
  cutO (
   bif b16 then
    some (.inl [(.bool (A.ieq n7 n12))])
   else
    some (.inl [(.bool false)])
  ) fun ds17 =>
  (opB (A.cell ds17 0)).bind fun b18 =>
  cutO (
   bif b18 then
    (E.call 11 [(.d (.int .i64 n8))]).bind fun p19 =>
    (opI (A.cell p19.leaves 0) .i64).bind fun n21 =>
    some (.inl [(.bool (A.ieq n21 n13))])
   else
    some (.inl [(.bool false)])
  ) fun ds22 =>
  (opB (A.cell ds22 0)).bind fun b23 =>
  cutO (
   bif b23 then
    (E.call 12 [(.d (.str s_))]).bind fun p24 =>
    (opS (A.cell p24.leaves 0)).bind fun s26 =>
    (E.call 13 [(.d (.str s_))]).bind fun p27 =>
    (opS (A.cell p27.leaves 0)).bind fun s29 =>
    some (.inl [(.bool (A.seq s26 s29))])
   else
    some (.inl [(.bool false)])
  ) fun ds30 =>
  (opB (A.cell ds30 0)).bind fun b31 =>
  cutO (
   bif b31 then
    (E.call 7 []).bind fun p32 =>
    (opB (A.cell p32.leaves 0)).bind fun b34 =>
    some (.inl [(.bool b34)])
   else
    some (.inl [(.bool false)])
  ) fun ds35 =>
  (opB (A.cell ds35 0)).bind fun b36 =>
  some (PRes.val [(.bool b36)])
theorem g3_eq (A : Sy) (E : Env) (s_ : ByteArray) (most_ : Int) : (funT A Tryz.prog cs 3 [V.d (.str s_), V.d (.int .i64 most_)]).run E = g3 A E s_ most_ := by kernel_rfl
def g10 (A : Sy) (E : Env) (a_ : List (List D)) (b_ : List (List D)) : Option PRes :=
 bif (A.bnot (A.ieq (A.rlen a_) (A.rlen b_))) then
  some (PRes.val [(.bool false)])
 else
  E.lp (fun ds1 =>
   (opL (A.cell ds1 0) 4).bind fun l2 =>
   (opL (A.cell ds1 1) 4).bind fun l3 =>
   (opI (A.cell ds1 2) .i64).bind fun n4 =>
   bif (A.ilt n4 (A.rlen l2)) then
    bif (A.inr n4 (A.rlen l2)) then
     (opI (A.cell (A.row l2 n4) 0) .i64).bind fun n5 =>
     bif (A.inr n4 (A.rlen l3)) then
      (opI (A.cell (A.row l3 n4) 0) .i64).bind fun n6 =>
      bif (A.bnot (A.ieq n5 n6)) then
       some (.inr (PRes.val [(.bool false)]))
      else
       bif (A.inr n4 (A.rlen l2)) then
        (opS (A.cell (A.skip 1 (A.row l2 n4)) 0)).bind fun s7 =>
        bif (A.inr n4 (A.rlen l3)) then
         (opS (A.cell (A.skip 1 (A.row l3 n4)) 0)).bind fun s8 =>
         bif (A.bnot (A.seq s7 s8)) then
          some (.inr (PRes.val [(.bool false)]))
         else
          bif (A.inr n4 (A.rlen l2)) then
           (opI (A.cell (A.skip 2 (A.row l2 n4)) 0) .i64).bind fun n9 =>
           bif (A.inr n4 (A.rlen l3)) then
            (opI (A.cell (A.skip 2 (A.row l3 n4)) 0) .i64).bind fun n10 =>
            bif (A.bnot (A.ieq n9 n10)) then
             some (.inr (PRes.val [(.bool false)]))
            else
             bif (A.inr n4 (A.rlen l2)) then
              (opI (A.cell (A.skip 3 (A.row l2 n4)) 0) .i64).bind fun n11 =>
              bif (A.inr n4 (A.rlen l3)) then
               (opI (A.cell (A.skip 3 (A.row l3 n4)) 0) .i64).bind fun n12 =>
               bif (A.bnot (A.ieq n11 n12)) then
                some (.inr (PRes.val [(.bool false)]))
               else
                some (.inl [(.sl 4 l2), (.sl 4 l3), (.int .i64 (A.wrap .i64 (A.add n4 1)))])
              else
               none
             else
              none
           else
            none
          else
           none
        else
         none
       else
        none
     else
      none
    else
     none
   else
    some (.inr (PRes.val [(.bool true)]))
  ) [(.sl 4 a_), (.sl 4 b_), (.int .i64 0)]
theorem g10_eq (A : Sy) (E : Env) (a_ : List (List D)) (b_ : List (List D)) : (funT A Tryz.prog cs 10 [V.d (.sl 4 a_), V.d (.sl 4 b_)]).run E = g10 A E a_ b_ := by kernel_rfl
def g12 (A : Sy) (E : Env) (p_ : ByteArray) : Option PRes :=
 (E.call 30 [(.d (.str p_))]).bind fun p1 =>
 (opB (A.cell p1.leaves 0)).bind fun b3 =>
 bif (A.bnot b3) then
  some (PRes.val [(.str (bs []))])
 else
  bif (A.sfit (bs [39]) p_) then
   bif (A.sfit (A.sapp (bs [39]) p_) (bs [39])) then
    some (PRes.val [(.str (A.sapp (A.sapp (bs [39]) p_) (bs [39])))])
   else
    none
  else
   none
theorem g12_eq (A : Sy) (E : Env) (p_ : ByteArray) : (funT A Tryz.prog cs 12 [V.d (.str p_)]).run E = g12 A E p_ := by kernel_rfl
def g13 (A : Sy) (E : Env) (p_ : ByteArray) : Option PRes :=
 (E.call 31 [(.d (.str p_))]).bind fun p1 =>
 (opB (A.cell p1.leaves 0)).bind fun b3 =>
 bif (A.bnot b3) then
  some (PRes.val [(.str (bs []))])
 else
  bif (A.sfit (bs [39]) p_) then
   bif (A.sfit (A.sapp (bs [39]) p_) (bs [39])) then
    some (PRes.val [(.str (A.sapp (A.sapp (bs [39]) p_) (bs [39])))])
   else
    none
  else
   none
theorem g13_eq (A : Sy) (E : Env) (p_ : ByteArray) : (funT A Tryz.prog cs 13 [V.d (.str p_)]).run E = g13 A E p_ := by kernel_rfl
def g9 (A : Sy) (E : Env) (s_ : ByteArray) (most_ : Int) : Option PRes :=
 bif (A.ilt most_ (A.slen s_)) then
  some (PRes.val [(.sl 4 []), (.int .i64 most_), (.int .i64 3)])
 else
  (E.call 28 [(.d (.str s_)), (.d (.int .i64 0))]).bind fun p1 =>
  (opI (A.cell p1.leaves 0) .i64).bind fun n3 =>
  E.lp (fun ds4 =>
   (opS (A.cell ds4 0)).bind fun s5 =>
   (opI (A.cell ds4 1) .i64).bind fun n6 =>
   (opL (A.cell ds4 2) 4).bind fun l7 =>
   bif (A.ilt n6 (A.slen s5)) then
    (E.call 29 [(.d (.str s5)), (.d (.int .i64 n6))]).bind fun p8 =>
    (opI (A.cell p8.leaves 0) .i64).bind fun n10 =>
    (opS (A.cell p8.leaves 1)).bind fun s11 =>
    (opI (A.cell p8.leaves 2) .i64).bind fun n12 =>
    (opI (A.cell p8.leaves 3) .i64).bind fun n13 =>
    (opI (A.cell p8.leaves 4) .i64).bind fun n14 =>
    (opB (A.cell p8.leaves 5)).bind fun b15 =>
    bif (A.bnot b15) then
     some (.inr (PRes.val [(.sl 4 []), (.int .i64 n6), (.int .i64 2)]))
    else
     bif (A.fits l7 [[(.int .i64 n10), (.str s11), (.int .i64 n12), (.int .i64 n13)]] 40) then
      (E.call 28 [(.d (.str s5)), (.d (.int .i64 n14))]).bind fun p16 =>
      (opI (A.cell p16.leaves 0) .i64).bind fun n18 =>
      some (.inl [(.str s5), (.int .i64 n18), (.sl 4 (A.rapp l7 [[(.int .i64 n10), (.str s11), (.int .i64 n12), (.int .i64 n13)]]))])
     else
      none
   else
    bif (A.fits l7 [[(.int .i64 6), (.str (bs [])), (.int .i64 0), (.int .i64 (A.slen s5))]] 40) then
     some (.inr (PRes.val [(.sl 4 (A.rapp l7 [[(.int .i64 6), (.str (bs [])), (.int .i64 0), (.int .i64 (A.slen s5))]])), (.int .i64 (A.slen s5)), (.int .i64 0)]))
    else
     none
  ) [(.str s_), (.int .i64 n3), (.sl 4 [])]
theorem g9_eq (A : Sy) (E : Env) (s_ : ByteArray) (most_ : Int) : (funT A Tryz.prog cs 9 [V.d (.str s_), V.d (.int .i64 most_)]).run E = g9 A E s_ most_ := by kernel_rfl
def g29 (A : Sy) (E : Env) (s_ : ByteArray) (at_ : Int) : Option PRes :=
 bif (A.inr at_ (A.slen s_)) then
  bif (A.ieq (A.sbyte s_ at_) 39) then
   (E.call 59 [(.d (.str s_)), (.d (.int .i64 at_))]).bind fun p1 =>
   (opI (A.cell p1.leaves 0) .i64).bind fun n3 =>
   (opS (A.cell p1.leaves 1)).bind fun s4 =>
   (opI (A.cell p1.leaves 2) .i64).bind fun n5 =>
   (opI (A.cell p1.leaves 3) .i64).bind fun n6 =>
   (opI (A.cell p1.leaves 4) .i64).bind fun n7 =>
   (opB (A.cell p1.leaves 5)).bind fun b8 =>
   some (PRes.val [(.int .i64 n3), (.str s4), (.int .i64 n5), (.int .i64 n6), (.int .i64 n7), (.bool b8)])
  else
   (E.call 60 [(.d (.int .u8 (A.sbyte s_ at_))), (.d (.int .u8 48)), (.d (.int .u8 57))]).bind fun p9 =>
   (opB (A.cell p9.leaves 0)).bind fun b11 =>
   bif b11 then
    (E.call 61 [(.d (.str s_)), (.d (.int .i64 at_))]).bind fun p12 =>
    (opI (A.cell p12.leaves 0) .i64).bind fun n14 =>
    (opS (A.cell p12.leaves 1)).bind fun s15 =>
    (opI (A.cell p12.leaves 2) .i64).bind fun n16 =>
    (opI (A.cell p12.leaves 3) .i64).bind fun n17 =>
    (opB (A.cell p12.leaves 4)).bind fun b18 =>
    some (PRes.val [(.int .i64 n14), (.str s15), (.int .i64 n16), (.int .i64 n17), (.int .i64 (A.wrap .i64 (A.add at_ (A.slen s15)))), (.bool b18)])
   else
    (E.call 60 [(.d (.int .u8 (A.sbyte s_ at_))), (.d (.int .u8 97)), (.d (.int .u8 122))]).bind fun p19 =>
    (opB (A.cell p19.leaves 0)).bind fun b21 =>
    cutO (
     bif b21 then
      some (.inl [(.bool true)])
     else
      (E.call 60 [(.d (.int .u8 (A.sbyte s_ at_))), (.d (.int .u8 65)), (.d (.int .u8 90))]).bind fun p22 =>
      (opB (A.cell p22.leaves 0)).bind fun b24 =>
      some (.inl [(.bool b24)])
    ) fun ds25 =>
    (opB (A.cell ds25 0)).bind fun b26 =>
    bif b26 then
     E.lp (fun ds27 =>
      (opS (A.cell ds27 0)).bind fun s28 =>
      (opI (A.cell ds27 1) .i64).bind fun n29 =>
      (opI (A.cell ds27 2) .u8).bind fun n30 =>
      (opI (A.cell ds27 3) .i64).bind fun n31 =>
      (opI (A.cell ds27 4) .i64).bind fun n32 =>
      (opS (A.cell ds27 5)).bind fun s33 =>
      (opI (A.cell ds27 6) .i64).bind fun n34 =>
      (opI (A.cell ds27 7) .i64).bind fun n35 =>
      cutO (
       bif (A.ilt n31 (A.slen s28)) then
        bif (A.inr n31 (A.slen s28)) then
         (E.call 62 [(.d (.int .u8 (A.sbyte s28 n31)))]).bind fun p36 =>
         (opB (A.cell p36.leaves 0)).bind fun b38 =>
         some (.inl [(.bool b38)])
        else
         none
       else
        some (.inl [(.bool false)])
      ) fun ds39 =>
      (opB (A.cell ds39 0)).bind fun b40 =>
      bif b40 then
       some (.inl [(.str s28), (.int .i64 n29), (.int .u8 n30), (.int .i64 (A.wrap .i64 (A.add n31 1))), (.int .i64 n32), (.str s33), (.int .i64 n34), (.int .i64 n35)])
      else
       bif (A.cutok n29 n31 (A.slen s28)) then
        (E.call 60 [(.d (.int .u8 n30)), (.d (.int .u8 65)), (.d (.int .u8 90))]).bind fun p41 =>
        (opB (A.cell p41.leaves 0)).bind fun b43 =>
        bif b43 then
         (E.call 63 [(.d (.str (A.scut s28 n29 n31)))]).bind fun p44 =>
         (opB (A.cell p44.leaves 0)).bind fun b46 =>
         some (.inr (PRes.val [(.int .i64 2), (.str (A.scut s28 n29 n31)), (.int .i64 0), (.int .i64 n29), (.int .i64 n31), (.bool b46)]))
        else
         (E.call 64 [(.d (.str (A.scut s28 n29 n31)))]).bind fun p47 =>
         (opB (A.cell p47.leaves 0)).bind fun b49 =>
         cutO (
          bif b49 then
           some (.inl [(.bool true)])
          else
           (E.call 65 [(.d (.str (A.scut s28 n29 n31)))]).bind fun p50 =>
           (opB (A.cell p50.leaves 0)).bind fun b52 =>
           some (.inl [(.bool b52)])
         ) fun ds53 =>
         (opB (A.cell ds53 0)).bind fun b54 =>
         some (.inr (PRes.val [(.int .i64 1), (.str (A.scut s28 n29 n31)), (.int .i64 0), (.int .i64 n29), (.int .i64 n31), (.bool b54)]))
       else
        none
     ) [(.str s_), (.int .i64 at_), (.int .u8 (A.sbyte s_ at_)), (.int .i64 at_), (.int .i64 0), (.str (bs [])), (.int .i64 0), (.int .i64 0)]
    else
     bif (A.cutok at_ (A.slen s_) (A.slen s_)) then
      (E.call 66 [(.d (.str (A.scut s_ at_ (A.slen s_))))]).bind fun p55 =>
      (opS (A.cell p55.leaves 0)).bind fun s57 =>
      some (PRes.val [(.int .i64 5), (.str s57), (.int .i64 0), (.int .i64 at_), (.int .i64 (A.wrap .i64 (A.add at_ (A.slen s57)))), (.bool (A.bnot (A.seq s57 (bs []))))])
     else
      none
 else
  none
theorem g29_eq (A : Sy) (E : Env) (s_ : ByteArray) (at_ : Int) : (funT A Tryz.prog cs 29 [V.d (.str s_), V.d (.int .i64 at_)]).run E = g29 A E s_ at_ := by kernel_rfl
def g59 (A : Sy) (E : Env) (s_ : ByteArray) (at_ : Int) : Option PRes :=
 E.lp (fun ds1 =>
  (opS (A.cell ds1 0)).bind fun s2 =>
  (opI (A.cell ds1 1) .i64).bind fun n3 =>
  (opI (A.cell ds1 2) .i64).bind fun n4 =>
  (opI (A.cell ds1 3) .i64).bind fun n5 =>
  (opS (A.cell ds1 4)).bind fun s6 =>
  (opI (A.cell ds1 5) .i64).bind fun n7 =>
  (opI (A.cell ds1 6) .i64).bind fun n8 =>
  bif (A.ilt n4 (A.slen s2)) then
   bif (A.inr n4 (A.slen s2)) then
    bif (A.ieq (A.sbyte s2 n4) 39) then
     bif (A.cutok (A.wrap .i64 (A.add n3 1)) n4 (A.slen s2)) then
      (E.call 31 [(.d (.str (A.scut s2 (A.wrap .i64 (A.add n3 1)) n4)))]).bind fun p9 =>
      (opB (A.cell p9.leaves 0)).bind fun b11 =>
      some (.inr (PRes.val [(.int .i64 4), (.str (A.scut s2 (A.wrap .i64 (A.add n3 1)) n4)), (.int .i64 0), (.int .i64 n3), (.int .i64 (A.wrap .i64 (A.add n4 1))), (.bool b11)]))
     else
      none
    else
     some (.inl [(.str s2), (.int .i64 n3), (.int .i64 (A.wrap .i64 (A.add n4 1))), (.int .i64 n5), (.str s6), (.int .i64 n7), (.int .i64 n8)])
   else
    none
  else
   some (.inr (PRes.val [(.int .i64 0), (.str (bs [])), (.int .i64 0), (.int .i64 0), (.int .i64 n3), (.bool false)]))
 ) [(.str s_), (.int .i64 at_), (.int .i64 (A.wrap .i64 (A.add at_ 1))), (.int .i64 0), (.str (bs [])), (.int .i64 0), (.int .i64 0)]
theorem g59_eq (A : Sy) (E : Env) (s_ : ByteArray) (at_ : Int) : (funT A Tryz.prog cs 59 [V.d (.str s_), V.d (.int .i64 at_)]).run E = g59 A E s_ at_ := by kernel_rfl
def g61 (A : Sy) (E : Env) (s_ : ByteArray) (at_ : Int) : Option PRes :=
 E.lp (fun ds1 =>
  (opS (A.cell ds1 0)).bind fun s2 =>
  (opI (A.cell ds1 1) .i64).bind fun n3 =>
  (opI (A.cell ds1 2) .u64).bind fun n4 =>
  (opI (A.cell ds1 3) .i64).bind fun n5 =>
  (opI (A.cell ds1 4) .i64).bind fun n6 =>
  (opS (A.cell ds1 5)).bind fun s7 =>
  (opI (A.cell ds1 6) .i64).bind fun n8 =>
  (opI (A.cell ds1 7) .i64).bind fun n9 =>
  cutO (
   bif (A.ilt n5 (A.slen s2)) then
    bif (A.inr n5 (A.slen s2)) then
     (E.call 60 [(.d (.int .u8 (A.sbyte s2 n5))), (.d (.int .u8 48)), (.d (.int .u8 57))]).bind fun p10 =>
     (opB (A.cell p10.leaves 0)).bind fun b12 =>
     some (.inl [(.bool b12)])
    else
     none
   else
    some (.inl [(.bool false)])
  ) fun ds13 =>
  (opB (A.cell ds13 0)).bind fun b14 =>
  bif b14 then
   bif (A.inr n5 (A.slen s2)) then
    bif (A.bnot (A.ieq 10 0)) then
     cutO (
      bif (A.ilt (A.wrap .u64 (A.quo (A.wrap .u64 (A.sub 9223372036854775807 (A.wrap .u64 (A.wrap .u8 (A.sub (A.sbyte s2 n5) 48))))) 10)) n4) then
       some (.inl [(.bool true)])
      else
       bif (A.ilt n3 n5) then
        bif (A.inr n3 (A.slen s2)) then
         some (.inl [(.bool (A.ieq (A.sbyte s2 n3) 48))])
        else
         none
       else
        some (.inl [(.bool false)])
     ) fun ds15 =>
     (opB (A.cell ds15 0)).bind fun b16 =>
     bif b16 then
      some (.inr (PRes.val [(.int .i64 0), (.str (bs [])), (.int .i64 0), (.int .i64 0), (.bool false)]))
     else
      some (.inl [(.str s2), (.int .i64 n3), (.int .u64 (A.wrap .u64 (A.add (A.wrap .u64 (A.mul n4 10)) (A.wrap .u64 (A.wrap .u8 (A.sub (A.sbyte s2 n5) 48)))))), (.int .i64 (A.wrap .i64 (A.add n5 1))), (.int .i64 n6), (.str s7), (.int .i64 n8), (.int .i64 n9)])
    else
     none
   else
    none
  else
   bif (A.cutok n3 n5 (A.slen s2)) then
    some (.inr (PRes.val [(.int .i64 3), (.str (A.scut s2 n3 n5)), (.int .i64 (A.wrap .i64 n4)), (.int .i64 n3), (.bool true)]))
   else
    none
 ) [(.str s_), (.int .i64 at_), (.int .u64 0), (.int .i64 at_), (.int .i64 0), (.str (bs [])), (.int .i64 0), (.int .i64 0)]
theorem g61_eq (A : Sy) (E : Env) (s_ : ByteArray) (at_ : Int) : (funT A Tryz.prog cs 61 [V.d (.str s_), V.d (.int .i64 at_)]).run E = g61 A E s_ at_ := by kernel_rfl
def g66 (A : Sy) (E : Env) (s_ : ByteArray) : Option PRes :=
 E.lp (fun ds1 =>
  (opS (A.cell ds1 0)).bind fun s2 =>
  (opI (A.cell ds1 1) .i64).bind fun n3 =>
  (opL (A.cell ds1 2) 1).bind fun l4 =>
  bif (A.ilt n3 (A.rlen l4)) then
   bif (A.ile 2 (A.slen s2)) then
    bif (A.cutok 0 2 (A.slen s2)) then
     bif (A.inr n3 (A.rlen l4)) then
      (opS (A.cell (A.rown l4 (A.nat n3)) 0)).bind fun s5 =>
      bif (A.seq (A.scut s2 0 2) s5) then
       bif (A.inr n3 (A.rlen l4)) then
        (opS (A.cell (A.rown l4 (A.nat n3)) 0)).bind fun s6 =>
        some (.inr (PRes.val [(.str s6)]))
       else
        none
      else
       some (.inl [(.str s2), (.int .i64 (A.wrap .i64 (A.add n3 1))), (.sl 1 l4)])
     else
      none
    else
     none
   else
    some (.inl [(.str s2), (.int .i64 (A.wrap .i64 (A.add n3 1))), (.sl 1 l4)])
  else
   E.lp (fun ds7 =>
    (opS (A.cell ds7 0)).bind fun s8 =>
    (opS (A.cell ds7 1)).bind fun s9 =>
    (opI (A.cell ds7 2) .i64).bind fun n10 =>
    bif (A.ilt n10 (A.slen s9)) then
     bif (A.inr 0 (A.slen s8)) then
      bif (A.inr n10 (A.slen s9)) then
       bif (A.ieq (A.sbyte s8 0) (A.sbyte s9 n10)) then
        bif (A.cutok n10 (A.wrap .i64 (A.add n10 1)) (A.slen s9)) then
         some (.inr (.inr (PRes.val [(.str (A.scut s9 n10 (A.wrap .i64 (A.add n10 1))))])))
        else
         none
       else
        some (.inl [(.str s8), (.str s9), (.int .i64 (A.wrap .i64 (A.add n10 1)))])
      else
       none
     else
      none
    else
     some (.inr (.inr (PRes.val [(.str (bs []))])))
   ) [(.str s2), (.str (bs [40, 41, 123, 125, 91, 93, 44, 59, 58, 61, 60, 62, 43, 45, 42, 47])), (.int .i64 0)]
 ) [(.str s_), (.int .i64 0), (.sl 1 [[(.str (bs [58, 61]))], [(.str (bs [45, 62]))], [(.str (bs [60, 61]))], [(.str (bs [62, 61]))], [(.str (bs [60, 62]))]])]
theorem g66_eq (A : Sy) (E : Env) (s_ : ByteArray) : (funT A Tryz.prog cs 66 [V.d (.str s_)]).run E = g66 A E s_ := by kernel_rfl
def g28 (A : Sy) (E : Env) (s_ : ByteArray) (at_ : Int) : Option PRes :=
 E.lp (fun ds1 =>
  (opS (A.cell ds1 0)).bind fun s2 =>
  (opI (A.cell ds1 1) .i64).bind fun n3 =>
  bif (A.ilt n3 (A.slen s2)) then
   bif (A.inr n3 (A.slen s2)) then
    cutO (
     bif (A.ieq (A.sbyte s2 n3) 9) then
      some (.inl [(.bool true)])
     else
      some (.inl [(.bool (A.ieq (A.sbyte s2 n3) 10))])
    ) fun ds4 =>
    (opB (A.cell ds4 0)).bind fun b5 =>
    cutO (
     bif b5 then
      some (.inl [(.bool true)])
     else
      some (.inl [(.bool (A.ieq (A.sbyte s2 n3) 13))])
    ) fun ds6 =>
    (opB (A.cell ds6 0)).bind fun b7 =>
    cutO (
     bif b7 then
      some (.inl [(.bool true)])
     else
      some (.inl [(.bool (A.ieq (A.sbyte s2 n3) 32))])
    ) fun ds8 =>
    (opB (A.cell ds8 0)).bind fun b9 =>
    bif b9 then
     some (.inl [(.str s2), (.int .i64 (A.wrap .i64 (A.add n3 1)))])
    else
     cutO (
      bif (A.bnot (A.ieq (A.sbyte s2 n3) 45)) then
       some (.inl [(.bool true)])
      else
       some (.inl [(.bool (A.ile (A.slen s2) (A.wrap .i64 (A.add n3 1))))])
     ) fun ds10 =>
     (opB (A.cell ds10 0)).bind fun b11 =>
     cutO (
      bif b11 then
       some (.inl [(.bool true)])
      else
       bif (A.inr (A.wrap .i64 (A.add n3 1)) (A.slen s2)) then
        some (.inl [(.bool (A.bnot (A.ieq (A.sbyte s2 (A.wrap .i64 (A.add n3 1))) 45)))])
       else
        none
     ) fun ds12 =>
     (opB (A.cell ds12 0)).bind fun b13 =>
     bif b13 then
      some (.inr (PRes.val [(.int .i64 n3)]))
     else
      E.lp (fun ds14 =>
       (opS (A.cell ds14 0)).bind fun s15 =>
       (opI (A.cell ds14 1) .i64).bind fun n16 =>
       cutO (
        bif (A.ilt n16 (A.slen s15)) then
         bif (A.inr n16 (A.slen s15)) then
          some (.inl [(.bool (A.bnot (A.ieq (A.sbyte s15 n16) 10)))])
         else
          none
        else
         some (.inl [(.bool false)])
       ) fun ds17 =>
       (opB (A.cell ds17 0)).bind fun b18 =>
       bif b18 then
        some (.inl [(.str s15), (.int .i64 (A.wrap .i64 (A.add n16 1)))])
       else
        some (.inr (.inl [(.str s15), (.int .i64 n16)]))
      ) [(.str s2), (.int .i64 n3)]
   else
    none
  else
   some (.inr (PRes.val [(.int .i64 n3)]))
 ) [(.str s_), (.int .i64 at_)]
theorem g28_eq (A : Sy) (E : Env) (s_ : ByteArray) (at_ : Int) : (funT A Tryz.prog cs 28 [V.d (.str s_), V.d (.int .i64 at_)]).run E = g28 A E s_ at_ := by kernel_rfl
def g62 (A : Sy) (E : Env) (c_ : Int) : Option PRes :=
 (E.call 60 [(.d (.int .u8 c_)), (.d (.int .u8 97)), (.d (.int .u8 122))]).bind fun p1 =>
 (opB (A.cell p1.leaves 0)).bind fun b3 =>
 cutO (
  bif b3 then
   some (.inl [(.bool true)])
  else
   (E.call 60 [(.d (.int .u8 c_)), (.d (.int .u8 65)), (.d (.int .u8 90))]).bind fun p4 =>
   (opB (A.cell p4.leaves 0)).bind fun b6 =>
   some (.inl [(.bool b6)])
 ) fun ds7 =>
 (opB (A.cell ds7 0)).bind fun b8 =>
 cutO (
  bif b8 then
   some (.inl [(.bool true)])
  else
   (E.call 60 [(.d (.int .u8 c_)), (.d (.int .u8 48)), (.d (.int .u8 57))]).bind fun p9 =>
   (opB (A.cell p9.leaves 0)).bind fun b11 =>
   some (.inl [(.bool b11)])
 ) fun ds12 =>
 (opB (A.cell ds12 0)).bind fun b13 =>
 cutO (
  bif b13 then
   some (.inl [(.bool true)])
  else
   some (.inl [(.bool (A.ieq c_ 95))])
 ) fun ds14 =>
 (opB (A.cell ds14 0)).bind fun b15 =>
 some (PRes.val [(.bool b15)])
theorem g62_eq (A : Sy) (E : Env) (c_ : Int) : (funT A Tryz.prog cs 62 [V.d (.int .u8 c_)]).run E = g62 A E c_ := by kernel_rfl
def g60 (A : Sy) (E : Env) (c_ : Int) (a_ : Int) (b_ : Int) : Option PRes :=
 cutO (
  bif (A.ile a_ c_) then
   some (.inl [(.bool (A.ile c_ b_))])
  else
   some (.inl [(.bool false)])
 ) fun ds1 =>
 (opB (A.cell ds1 0)).bind fun b2 =>
 some (PRes.val [(.bool b2)])
theorem g60_eq (A : Sy) (E : Env) (c_ : Int) (a_ : Int) (b_ : Int) : (funT A Tryz.prog cs 60 [V.d (.int .u8 c_), V.d (.int .u8 a_), V.d (.int .u8 b_)]).run E = g60 A E c_ a_ b_ := by kernel_rfl
def g31 (A : Sy) (E : Env) (s_ : ByteArray) : Option PRes :=
 (E.call 69 [(.d (.str s_)), (.d (.int .u8 47))]).bind fun p1 =>
 (opL (A.cell p1.leaves 0) 1).bind fun l3 =>
 E.lp (fun ds4 =>
  (opL (A.cell ds4 0) 1).bind fun l5 =>
  (opI (A.cell ds4 1) .i64).bind fun n6 =>
  bif (A.ilt n6 (A.rlen l5)) then
   bif (A.inr n6 (A.rlen l5)) then
    (opS (A.cell (A.row l5 n6) 0)).bind fun s7 =>
    (E.call 69 [(.d (.str s7)), (.d (.int .u8 46))]).bind fun p8 =>
    (opL (A.cell p8.leaves 0) 1).bind fun l10 =>
    cutO (
     bif (A.ilt 2 (A.rlen l10)) then
      some (.inl [(.bool true)])
     else
      bif (A.inr 0 (A.rlen l10)) then
       (opS (A.cell (A.row l10 0) 0)).bind fun s11 =>
       (E.call 64 [(.d (.str s11))]).bind fun p12 =>
       (opB (A.cell p12.leaves 0)).bind fun b14 =>
       some (.inl [(.bool (A.bnot b14))])
      else
       none
    ) fun ds15 =>
    (opB (A.cell ds15 0)).bind fun b16 =>
    bif b16 then
     some (.inr (PRes.val [(.bool false)]))
    else
     bif (A.ilt (A.rlen l10) 2) then
      some (.inl [(.sl 1 l5), (.int .i64 (A.wrap .i64 (A.add n6 1)))])
     else
      bif (A.inr 1 (A.rlen l10)) then
       (opS (A.cell (A.row l10 1) 0)).bind fun s17 =>
       cutO (
        bif (A.ilt (A.slen s17) 1) then
         some (.inl [(.bool true)])
        else
         some (.inl [(.bool (A.ilt 3 (A.slen s17)))])
       ) fun ds18 =>
       (opB (A.cell ds18 0)).bind fun b19 =>
       cutO (
        bif b19 then
         some (.inl [(.bool true)])
        else
         bif (A.inr 0 (A.slen s17)) then
          some (.inl [(.bool (A.ieq (A.sbyte s17 0) 48))])
         else
          none
       ) fun ds20 =>
       (opB (A.cell ds20 0)).bind fun b21 =>
       bif b21 then
        some (.inr (PRes.val [(.bool false)]))
       else
        E.lp (fun ds22 =>
         (opL (A.cell ds22 0) 1).bind fun l23 =>
         (opI (A.cell ds22 1) .i64).bind fun n24 =>
         (opS (A.cell ds22 2)).bind fun s25 =>
         (opI (A.cell ds22 3) .i64).bind fun n26 =>
         bif (A.ilt n26 (A.slen s25)) then
          bif (A.inr n26 (A.slen s25)) then
           (E.call 70 [(.d (.int .u8 (A.sbyte s25 n26))), (.d (.int .u8 48)), (.d (.int .u8 57))]).bind fun p27 =>
           (opB (A.cell p27.leaves 0)).bind fun b29 =>
           bif (A.bnot b29) then
            some (.inr (.inr (PRes.val [(.bool false)])))
           else
            some (.inl [(.sl 1 l23), (.int .i64 n24), (.str s25), (.int .i64 (A.wrap .i64 (A.add n26 1)))])
          else
           none
         else
          some (.inr (.inl [(.sl 1 l23), (.int .i64 (A.wrap .i64 (A.add n24 1)))]))
        ) [(.sl 1 l5), (.int .i64 n6), (.str s17), (.int .i64 0)]
      else
       none
   else
    none
  else
   some (.inr (PRes.val [(.bool true)]))
 ) [(.sl 1 l3), (.int .i64 0)]
theorem g31_eq (A : Sy) (E : Env) (s_ : ByteArray) : (funT A Tryz.prog cs 31 [V.d (.str s_)]).run E = g31 A E s_ := by kernel_rfl
def g63 (A : Sy) (E : Env) (s_ : ByteArray) : Option PRes :=
 (E.call 101 [(.d (.str s_)), (.d (.int .u8 65)), (.d (.int .u8 90))]).bind fun p1 =>
 (opB (A.cell p1.leaves 0)).bind fun b3 =>
 some (PRes.val [(.bool b3)])
theorem g63_eq (A : Sy) (E : Env) (s_ : ByteArray) : (funT A Tryz.prog cs 63 [V.d (.str s_)]).run E = g63 A E s_ := by kernel_rfl
def g64 (A : Sy) (E : Env) (s_ : ByteArray) : Option PRes :=
 (E.call 101 [(.d (.str s_)), (.d (.int .u8 97)), (.d (.int .u8 122))]).bind fun p1 =>
 (opB (A.cell p1.leaves 0)).bind fun b3 =>
 cutO (
  bif b3 then
   (E.call 65 [(.d (.str s_))]).bind fun p4 =>
   (opB (A.cell p4.leaves 0)).bind fun b6 =>
   some (.inl [(.bool (A.bnot b6))])
  else
   some (.inl [(.bool false)])
 ) fun ds7 =>
 (opB (A.cell ds7 0)).bind fun b8 =>
 some (PRes.val [(.bool b8)])
theorem g64_eq (A : Sy) (E : Env) (s_ : ByteArray) : (funT A Tryz.prog cs 64 [V.d (.str s_)]).run E = g64 A E s_ := by kernel_rfl
def g65 (A : Sy) (E : Env) (s_ : ByteArray) : Option PRes :=
 (E.call 102 []).bind fun p1 =>
 (opL (A.cell p1.leaves 0) 1).bind fun l3 =>
 E.lp (fun ds4 =>
  (opS (A.cell ds4 0)).bind fun s5 =>
  (opL (A.cell ds4 1) 1).bind fun l6 =>
  (opI (A.cell ds4 2) .i64).bind fun n7 =>
  bif (A.ilt n7 (A.rlen l6)) then
   bif (A.inr n7 (A.rlen l6)) then
    (opS (A.cell (A.row l6 n7) 0)).bind fun s8 =>
    bif (A.seq s8 s5) then
     some (.inr (PRes.val [(.bool true)]))
    else
     some (.inl [(.str s5), (.sl 1 l6), (.int .i64 (A.wrap .i64 (A.add n7 1)))])
   else
    none
  else
   some (.inr (PRes.val [(.bool false)]))
 ) [(.str s_), (.sl 1 l3), (.int .i64 0)]
theorem g65_eq (A : Sy) (E : Env) (s_ : ByteArray) : (funT A Tryz.prog cs 65 [V.d (.str s_)]).run E = g65 A E s_ := by kernel_rfl
def g102 (A : Sy) (E : Env) : Option PRes :=
 some (PRes.own 9 1 [[(.str (bs [110, 111, 100, 101]))], [(.str (bs [114, 101, 116, 117, 114, 110, 115]))], [(.str (bs [118, 97, 114]))], [(.str (bs [108, 101, 116]))], [(.str (bs [116, 101, 108]))], [(.str (bs [101, 110, 117, 109]))], [(.str (bs [105, 102]))], [(.str (bs [116, 104, 101, 110]))], [(.str (bs [101, 108, 115, 101]))], [(.str (bs [102, 98, 121]))], [(.str (bs [112, 114, 101]))], [(.str (bs [119, 104, 101, 110]))], [(.str (bs [109, 101, 114, 103, 101]))], [(.str (bs [101, 118, 101, 114, 121]))], [(.str (bs [110, 111, 116]))], [(.str (bs [97, 110, 100]))], [(.str (bs [111, 114]))], [(.str (bs [120, 111, 114]))], [(.str (bs [109, 111, 100]))], [(.str (bs [116, 114, 117, 101]))], [(.str (bs [102, 97, 108, 115, 101]))], [(.str (bs [105, 110, 116]))], [(.str (bs [98, 111, 111, 108]))], [(.str (bs [119, 105, 116, 104]))]])
theorem g102_eq (A : Sy) (E : Env) : (funT A Tryz.prog cs 102 []).run E = g102 A E  := by kernel_rfl
def g69 (A : Sy) (E : Env) (s_ : ByteArray) (c_ : Int) : Option PRes :=
 E.lp (fun ds1 =>
  (opS (A.cell ds1 0)).bind fun s2 =>
  (opI (A.cell ds1 1) .u8).bind fun n3 =>
  (opI (A.cell ds1 2) .i64).bind fun n4 =>
  (opI (A.cell ds1 3) .i64).bind fun n5 =>
  (opL (A.cell ds1 4) 1).bind fun l6 =>
  bif (A.ile n5 (A.slen s2)) then
   cutO (
    bif (A.ieq n5 (A.slen s2)) then
     some (.inl [(.bool true)])
    else
     bif (A.inr n5 (A.slen s2)) then
      some (.inl [(.bool (A.ieq (A.sbyte s2 n5) n3))])
     else
      none
   ) fun ds7 =>
   (opB (A.cell ds7 0)).bind fun b8 =>
   bif b8 then
    bif (A.cutok n4 n5 (A.slen s2)) then
     bif (A.fits l6 [[(.str (A.scut s2 n4 n5))]] 16) then
      some (.inl [(.str s2), (.int .u8 n3), (.int .i64 (A.wrap .i64 (A.add n5 1))), (.int .i64 (A.wrap .i64 (A.add n5 1))), (.sl 1 (A.rapp l6 [[(.str (A.scut s2 n4 n5))]]))])
     else
      none
    else
     none
   else
    some (.inl [(.str s2), (.int .u8 n3), (.int .i64 n4), (.int .i64 (A.wrap .i64 (A.add n5 1))), (.sl 1 l6)])
  else
   some (.inr (PRes.own 9 1 l6))
 ) [(.str s_), (.int .u8 c_), (.int .i64 0), (.int .i64 0), (.sl 1 [])]
theorem g69_eq (A : Sy) (E : Env) (s_ : ByteArray) (c_ : Int) : (funT A Tryz.prog cs 69 [V.d (.str s_), V.d (.int .u8 c_)]).run E = g69 A E s_ c_ := by kernel_rfl
def g70 (A : Sy) (E : Env) (c_ : Int) (a_ : Int) (b_ : Int) : Option PRes :=
 cutO (
  bif (A.ile a_ c_) then
   some (.inl [(.bool (A.ile c_ b_))])
  else
   some (.inl [(.bool false)])
 ) fun ds1 =>
 (opB (A.cell ds1 0)).bind fun b2 =>
 some (PRes.val [(.bool b2)])
theorem g70_eq (A : Sy) (E : Env) (c_ : Int) (a_ : Int) (b_ : Int) : (funT A Tryz.prog cs 70 [V.d (.int .u8 c_), V.d (.int .u8 a_), V.d (.int .u8 b_)]).run E = g70 A E c_ a_ b_ := by kernel_rfl
def g101 (A : Sy) (E : Env) (s_ : ByteArray) (a_ : Int) (b_ : Int) : Option PRes :=
 cutO (
  bif (A.ilt (A.slen s_) 1) then
   some (.inl [(.bool true)])
  else
   some (.inl [(.bool (A.ilt 12 (A.slen s_)))])
 ) fun ds1 =>
 (opB (A.cell ds1 0)).bind fun b2 =>
 cutO (
  bif b2 then
   some (.inl [(.bool true)])
  else
   bif (A.inr 0 (A.slen s_)) then
    (E.call 70 [(.d (.int .u8 (A.sbyte s_ 0))), (.d (.int .u8 a_)), (.d (.int .u8 b_))]).bind fun p3 =>
    (opB (A.cell p3.leaves 0)).bind fun b5 =>
    some (.inl [(.bool (A.bnot b5))])
   else
    none
 ) fun ds6 =>
 (opB (A.cell ds6 0)).bind fun b7 =>
 bif b7 then
  some (PRes.val [(.bool false)])
 else
  E.lp (fun ds8 =>
   (opS (A.cell ds8 0)).bind fun s9 =>
   (opI (A.cell ds8 1) .i64).bind fun n10 =>
   bif (A.ilt n10 (A.slen s9)) then
    bif (A.inr n10 (A.slen s9)) then
     (E.call 70 [(.d (.int .u8 (A.sbyte s9 n10))), (.d (.int .u8 97)), (.d (.int .u8 122))]).bind fun p11 =>
     (opB (A.cell p11.leaves 0)).bind fun b13 =>
     cutO (
      bif (A.bnot b13) then
       bif (A.inr n10 (A.slen s9)) then
        (E.call 70 [(.d (.int .u8 (A.sbyte s9 n10))), (.d (.int .u8 65)), (.d (.int .u8 90))]).bind fun p14 =>
        (opB (A.cell p14.leaves 0)).bind fun b16 =>
        some (.inl [(.bool (A.bnot b16))])
       else
        none
      else
       some (.inl [(.bool false)])
     ) fun ds17 =>
     (opB (A.cell ds17 0)).bind fun b18 =>
     cutO (
      bif b18 then
       bif (A.inr n10 (A.slen s9)) then
        (E.call 70 [(.d (.int .u8 (A.sbyte s9 n10))), (.d (.int .u8 48)), (.d (.int .u8 57))]).bind fun p19 =>
        (opB (A.cell p19.leaves 0)).bind fun b21 =>
        some (.inl [(.bool (A.bnot b21))])
       else
        none
      else
       some (.inl [(.bool false)])
     ) fun ds22 =>
     (opB (A.cell ds22 0)).bind fun b23 =>
     cutO (
      bif b23 then
       bif (A.inr n10 (A.slen s9)) then
        some (.inl [(.bool (A.bnot (A.ieq (A.sbyte s9 n10) 95)))])
       else
        none
      else
       some (.inl [(.bool false)])
     ) fun ds24 =>
     (opB (A.cell ds24 0)).bind fun b25 =>
     bif b25 then
      some (.inr (PRes.val [(.bool false)]))
     else
      some (.inl [(.str s9), (.int .i64 (A.wrap .i64 (A.add n10 1)))])
    else
     none
   else
    some (.inr (PRes.val [(.bool true)]))
  ) [(.str s_), (.int .i64 0)]
theorem g101_eq (A : Sy) (E : Env) (s_ : ByteArray) (a_ : Int) (b_ : Int) : (funT A Tryz.prog cs 101 [V.d (.str s_), V.d (.int .u8 a_), V.d (.int .u8 b_)]).run E = g101 A E s_ a_ b_ := by kernel_rfl
end Go.Vm
end
