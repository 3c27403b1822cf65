/-
  Part F of the proof. What is proved by the whole: the statement that the claim names, with no condition. This part: lemmas.
-/
import Derived.Test.YtdckoceiokaelaaDoorE
import Derived.Shelf.Strings.Fields
import Derived.Shelf.Strconv.ParseIntPublic10
import Derived.Test.YtdckoceiokaelaaDoorChecked
set_option linter.unusedSimpArgs false
set_option linter.unusedVariables false

section
/-
  DERIVED: THE SHELF's CONTRACTS AT THIS DUMP, IN PLAIN WORDS (tools/lay-plain.mjs out of 'TrydShelf.lean', which tools/lay-shelf.mjs wrote): THE SAME DECLARATIONS UNDER THE SAME NAMES: 'import', 'namespace', 'open', 'def', 'theorem' AND NOTHING ELSE: no command of the shelf's: FOR A HAND-IN. Each laying: the table of numbers ('.._ren') and one theorem, a field a fact of the dump's own or the kernel's comparison; each contract: ONE APPLICATION.
-/
namespace Go.Proofs
open Go.Shelf
def Tryd.laysC174_ren : Go.Shelf.Ren := ⟨fun | 174 => 26 | 247 => 34 | 245 => 35 | 287 => 43 | 279 => 44 | 280 => 45 | 281 => 46 | 282 => 47 | 321 => 56 | 322 => 57 | 316 => 58 | 171 => 60 | 205 => 59 | 243 => 67 | 246 => 71 | 283 => 73 | 284 => 74 | 285 => 75 | 286 => 76 | 129 => 78 | 317 => 77 | 318 => 79 | 319 => 80 | 320 => 81 | 337 => 82 | 338 => 83 | n => n, fun | 9 => 9 | 3 => 3 | 2 => 2 | 75 => 38 | 85 => 39 | 4 => 4 | 167 => 51 | 5 => 5 | 53 => 52 | 175 => 53 | 46 => 55 | 168 => 56 | 37 => 70 | 0 => 0 | 210 => 73 | 21 => 21 | 127 => 90 | 145 => 93 | 143 => 91 | 171 => 99 | 173 => 102 | 212 => 108 | 51 => 66 | 20 => 20 | 213 => 109 | 232 => 113 | 233 => 114 | 80 => 115 | n => n, fun | 15 => 3 | 16 => 4 | 17 => 7 | 18 => 8 | 19 => 9 | n => n⟩
theorem Tryd.laysC174 : Go.Proofs.LaysC.n174 Tryd.prog Tryd.laysC174_ren := {
  mixed := by kernel_rfl
  f129 := Tryd.func78.trans (congrArg some (by kernel_rfl))
  f171 := Tryd.func60.trans (congrArg some (by kernel_rfl))
  f174 := Tryd.func26.trans (congrArg some (by kernel_rfl))
  f205 := Tryd.func59.trans (congrArg some (by kernel_rfl))
  f243 := Tryd.func67.trans (congrArg some (by kernel_rfl))
  f245 := Tryd.func35.trans (congrArg some (by kernel_rfl))
  f246 := Tryd.func71.trans (congrArg some (by kernel_rfl))
  f247 := Tryd.func34.trans (congrArg some (by kernel_rfl))
  f279 := Tryd.func44.trans (congrArg some (by kernel_rfl))
  f280 := Tryd.func45.trans (congrArg some (by kernel_rfl))
  f281 := Tryd.func46.trans (congrArg some (by kernel_rfl))
  f282 := Tryd.func47.trans (congrArg some (by kernel_rfl))
  f283 := Tryd.func73.trans (congrArg some (by kernel_rfl))
  f284 := Tryd.func74.trans (congrArg some (by kernel_rfl))
  f285 := Tryd.func75.trans (congrArg some (by kernel_rfl))
  f286 := Tryd.func76.trans (congrArg some (by kernel_rfl))
  f287 := Tryd.func43.trans (congrArg some (by kernel_rfl))
  f316 := Tryd.func58.trans (congrArg some (by kernel_rfl))
  f317 := Tryd.func77.trans (congrArg some (by kernel_rfl))
  f318 := Tryd.func79.trans (congrArg some (by kernel_rfl))
  f319 := Tryd.func80.trans (congrArg some (by kernel_rfl))
  f320 := Tryd.func81.trans (congrArg some (by kernel_rfl))
  f321 := Tryd.func56.trans (congrArg some (by kernel_rfl))
  f322 := Tryd.func57.trans (congrArg some (by kernel_rfl))
  f337 := Tryd.func82.trans (congrArg some (by kernel_rfl))
  f338 := Tryd.func83.trans (congrArg some (by kernel_rfl))
  t0 := Tryd.underlying0
  a0 := Tryd.isAgg0
  z0 := Tryd.sizeOf0
  v0 := Tryd.zeroValue0
  t2 := Tryd.underlying2
  a2 := Tryd.isAgg2
  z2 := Tryd.sizeOf2
  v2 := Tryd.zeroValue2
  t3 := Tryd.underlying3
  a3 := Tryd.isAgg3
  z3 := Tryd.sizeOf3
  v3 := Tryd.zeroValue3
  t4 := Tryd.underlying4
  a4 := Tryd.isAgg4
  z4 := Tryd.sizeOf4
  v4 := Tryd.zeroValue4
  t5 := Tryd.underlying5
  a5 := Tryd.isAgg5
  z5 := Tryd.sizeOf5
  v5 := Tryd.zeroValue5
  t9 := Tryd.underlying9
  a9 := Tryd.isAgg9
  z9 := Tryd.sizeOf9
  v9 := Tryd.zeroValue9
  t20 := Tryd.underlying20
  a20 := Tryd.isAgg20
  z20 := Tryd.sizeOf20
  v20 := Tryd.zeroValue20
  t21 := Tryd.underlying21
  a21 := Tryd.isAgg21
  z21 := Tryd.sizeOf21
  v21 := Tryd.zeroValue21
  t37 := Tryd.underlying70
  a37 := Tryd.isAgg70
  z37 := Tryd.sizeOf70
  v37 := Tryd.zeroValue70
  t46 := Tryd.underlying55
  a46 := Tryd.isAgg55
  z46 := Tryd.sizeOf55
  v46 := Tryd.zeroValue55
  t51 := Tryd.underlying66
  a51 := Tryd.isAgg66
  z51 := Tryd.sizeOf66
  v51 := Tryd.zeroValue66
  t53 := Tryd.underlying52
  a53 := Tryd.isAgg52
  z53 := Tryd.sizeOf52
  v53 := Tryd.zeroValue52
  t75 := Tryd.underlying38
  a75 := Tryd.isAgg38
  z75 := Tryd.sizeOf38
  v75 := Tryd.zeroValue38
  t85 := Tryd.underlying39
  a85 := Tryd.isAgg39
  z85 := Tryd.sizeOf39
  v85 := Tryd.zeroValue39
  t127 := Tryd.underlying90
  a127 := Tryd.isAgg90
  z127 := Tryd.sizeOf90
  v127 := Tryd.zeroValue90
  t143 := Tryd.underlying91
  a143 := Tryd.isAgg91
  z143 := Tryd.sizeOf91
  v143 := Tryd.zeroValue91
  t145 := Tryd.underlying93
  a145 := Tryd.isAgg93
  z145 := Tryd.sizeOf93
  v145 := Tryd.zeroValue93
  t167 := Tryd.underlying51
  a167 := Tryd.isAgg51
  z167 := Tryd.sizeOf51
  v167 := Tryd.zeroValue51
  t168 := Tryd.underlying56
  a168 := Tryd.isAgg56
  z168 := Tryd.sizeOf56
  v168 := Tryd.zeroValue56
  t171 := Tryd.underlying99
  a171 := Tryd.isAgg99
  z171 := Tryd.sizeOf99
  v171 := Tryd.zeroValue99
  t173 := Tryd.underlying102
  a173 := Tryd.isAgg102
  z173 := Tryd.sizeOf102
  v173 := Tryd.zeroValue102
  t175 := Tryd.underlying53
  a175 := Tryd.isAgg53
  z175 := Tryd.sizeOf53
  v175 := Tryd.zeroValue53
  t210 := Tryd.underlying73
  a210 := Tryd.isAgg73
  z210 := Tryd.sizeOf73
  v210 := Tryd.zeroValue73
  t212 := Tryd.underlying108
  a212 := Tryd.isAgg108
  z212 := Tryd.sizeOf108
  v212 := Tryd.zeroValue108
  t213 := Tryd.underlying109
  a213 := Tryd.isAgg109
  z213 := Tryd.sizeOf109
  t232 := Tryd.underlying113
  a232 := Tryd.isAgg113
  z232 := Tryd.sizeOf113
  v232 := Tryd.zeroValue113
  t233 := Tryd.underlying114
  a233 := Tryd.isAgg114
  z233 := Tryd.sizeOf114
  v233 := Tryd.zeroValue114
  g15 := by kernel_rfl
  g16 := by kernel_rfl
  g17 := by kernel_rfl
  g18 := by kernel_rfl
  g19 := by kernel_rfl
  t80 := Tryd.underlying115
  a80 := Tryd.isAgg115
  z80 := Tryd.sizeOf115
  v80 := Tryd.zeroValue115
  i0 := by kernel_rfl
  i2 := by kernel_rfl
  i3 := by kernel_rfl
  i4 := by kernel_rfl
  i5 := by kernel_rfl
  i9 := by kernel_rfl
  i20 := by kernel_rfl
  i21 := by kernel_rfl
  i37 := by kernel_rfl
  i46 := by kernel_rfl
  i51 := by kernel_rfl
  i53 := by kernel_rfl
  i75 := by kernel_rfl
  i80 := by kernel_rfl
  i85 := by kernel_rfl
  i127 := by kernel_rfl
  i143 := by kernel_rfl
  i145 := by kernel_rfl
  i167 := by kernel_rfl
  i168 := by kernel_rfl
  i171 := by kernel_rfl
  i173 := by kernel_rfl
  i175 := by kernel_rfl
  i210 := by kernel_rfl
  i212 := by kernel_rfl
  i232 := by kernel_rfl
  i233 := by kernel_rfl
  m15 := by kernel_rfl
  m16 := by kernel_rfl
  m17 := by kernel_rfl
  m18 := by kernel_rfl
  m19 := by kernel_rfl
  c0 := by kernel_rfl
  c2 := by kernel_rfl
  c3 := by kernel_rfl
  c4 := by kernel_rfl
  c5 := by kernel_rfl
  c9 := by kernel_rfl
  c20 := by kernel_rfl
  c21 := by kernel_rfl
  c37 := by kernel_rfl
  c46 := by kernel_rfl
  c51 := by kernel_rfl
  c53 := by kernel_rfl
  c75 := by kernel_rfl
  c80 := by kernel_rfl
  c85 := by kernel_rfl
  c127 := by kernel_rfl
  c143 := by kernel_rfl
  c145 := by kernel_rfl
  c167 := by kernel_rfl
  c168 := by kernel_rfl
  c171 := by kernel_rfl
  c173 := by kernel_rfl
  c175 := by kernel_rfl
  c210 := by kernel_rfl
  c212 := by kernel_rfl
  c213 := by kernel_rfl
  c232 := by kernel_rfl
  c233 := by kernel_rfl }
open Go.RowKit in
/-- strconv.ParseInt(s, 10, 64), AT EVERY STRING THAT SPELLS AN int64 ('Lib.parseIntB 64 s.data.toList = .ok v'): v, AND NO ERROR. (LAID: no walk: one application.) -/
theorem Tryd.strconv_ParseInt_10_at64_ok (s : ByteArray) (hmax : s.size ≤ 9223372036854775806) (v : Int) (h : Lib.parseIntB 64 s.data.toList = .ok v) (w : World) :
    Calls Tryd.prog 26 #[.string s, .int .i64 10, .int .i64 64] w fun e w' => e = .returned (.tuple #[.int .i64 v, .nilIface]) ∧ (w' = w ∨ ∃ t, w' = Lib.bytesWorld w 5 t) := Any.strconv_ParseInt_10_at64_ok Tryd.laysC174 s hmax v h w
open Go.RowKit in
/-- strconv.ParseInt(s, 10, 64), AT EVERY NUMERAL THAT NO int64 HOLDS: THE GREATEST OR THE LEAST int64, BY THE SIGN ('Lib.intSat 64'), AND AN ERROR THAT IS NOT nil: a *NumError in a new block N: {Func: "ParseInt", Num: s's bytes, Err: what the variable ErrRange holds}. Of what was there nothing has turned. (LAID: no walk: one application.) -/
theorem Tryd.strconv_ParseInt_10_at64_range (s : ByteArray) (hlim : s.size ≤ 281474976710656) (h : Lib.parseIntB 64 s.data.toList = .range) (ev : Value) (w : World) (hv : w.cell? ⟨4, 0, none⟩ = some ev) (hev : ev = .nilIface ∨ ∃ te pe, ev = .iface te pe) :
    Calls Tryd.prog 26 #[.string s, .int .i64 10, .int .i64 64] w fun e w' => ∃ N, e = .returned (.tuple #[.int .i64 (Lib.intSat 64 s.data.toList), .iface 56 (.pointer (some ⟨N, 0, none⟩))]) ∧ w.heap.size ≤ N ∧ w'.heap[N]? = some (.cells #[.string ⟨#[80, 97, 114, 115, 101, 73, 110, 116]⟩, .string s, ev] 73 (0, 0)) ∧ Below w.heap.size w w' := Any.strconv_ParseInt_10_at64_range Tryd.laysC174 s hlim h ev w hv hev
def Tryd.lays157_ren : Go.Shelf.Ren := ⟨fun | 157 => 29 | 229 => 39 | 199 => 40 | 261 => 54 | 311 => 65 | 312 => 66 | n => n, fun | 9 => 9 | 31 => 42 | 3 => 3 | 5 => 5 | 4 => 4 | 119 => 49 | 0 => 0 | 40 => 46 | 152 => 63 | 21 => 21 | 154 => 65 | 51 => 66 | 141 => 68 | 196 => 82 | 193 => 79 | 198 => 85 | 49 => 83 | 194 => 80 | 201 => 88 | 226 => 96 | 46 => 55 | 227 => 97 | n => n, fun | 0 => 0 | 6 => 2 | n => n⟩
theorem Tryd.lays157 : Go.Proofs.Lays.n157 Tryd.prog Tryd.lays157_ren := {
  mixed := by kernel_rfl
  f157 := Tryd.func29.trans (congrArg some (by kernel_rfl))
  f199 := Tryd.func40.trans (congrArg some (by kernel_rfl))
  f229 := Tryd.func39.trans (congrArg some (by kernel_rfl))
  f261 := Tryd.func54.trans (congrArg some (by kernel_rfl))
  f311 := Tryd.func65.trans (congrArg some (by kernel_rfl))
  f312 := Tryd.func66.trans (congrArg some (by kernel_rfl))
  t0 := Tryd.underlying0
  a0 := Tryd.isAgg0
  z0 := Tryd.sizeOf0
  v0 := Tryd.zeroValue0
  t3 := Tryd.underlying3
  a3 := Tryd.isAgg3
  z3 := Tryd.sizeOf3
  v3 := Tryd.zeroValue3
  t4 := Tryd.underlying4
  a4 := Tryd.isAgg4
  z4 := Tryd.sizeOf4
  v4 := Tryd.zeroValue4
  t5 := Tryd.underlying5
  a5 := Tryd.isAgg5
  z5 := Tryd.sizeOf5
  v5 := Tryd.zeroValue5
  t9 := Tryd.underlying9
  a9 := Tryd.isAgg9
  z9 := Tryd.sizeOf9
  v9 := Tryd.zeroValue9
  t21 := Tryd.underlying21
  a21 := Tryd.isAgg21
  z21 := Tryd.sizeOf21
  v21 := Tryd.zeroValue21
  t31 := Tryd.underlying42
  a31 := Tryd.isAgg42
  z31 := Tryd.sizeOf42
  v31 := Tryd.zeroValue42
  t40 := Tryd.underlying46
  a40 := Tryd.isAgg46
  z40 := Tryd.sizeOf46
  v40 := Tryd.zeroValue46
  t46 := Tryd.underlying55
  a46 := Tryd.isAgg55
  z46 := Tryd.sizeOf55
  v46 := Tryd.zeroValue55
  t49 := Tryd.underlying83
  a49 := Tryd.isAgg83
  z49 := Tryd.sizeOf83
  v49 := Tryd.zeroValue83
  t51 := Tryd.underlying66
  a51 := Tryd.isAgg66
  z51 := Tryd.sizeOf66
  v51 := Tryd.zeroValue66
  t119 := Tryd.underlying49
  a119 := Tryd.isAgg49
  z119 := Tryd.sizeOf49
  t141 := Tryd.underlying68
  a141 := Tryd.isAgg68
  z141 := Tryd.sizeOf68
  v141 := Tryd.zeroValue68
  t152 := Tryd.underlying63
  a152 := Tryd.isAgg63
  z152 := Tryd.sizeOf63
  v152 := Tryd.zeroValue63
  t154 := Tryd.underlying65
  a154 := Tryd.isAgg65
  z154 := Tryd.sizeOf65
  v154 := Tryd.zeroValue65
  t193 := Tryd.underlying79
  a193 := Tryd.isAgg79
  z193 := Tryd.sizeOf79
  v193 := Tryd.zeroValue79
  t194 := Tryd.underlying80
  a194 := Tryd.isAgg80
  z194 := Tryd.sizeOf80
  v194 := Tryd.zeroValue80
  t196 := Tryd.underlying82
  a196 := Tryd.isAgg82
  z196 := Tryd.sizeOf82
  v196 := Tryd.zeroValue82
  t198 := Tryd.underlying85
  a198 := Tryd.isAgg85
  z198 := Tryd.sizeOf85
  v198 := Tryd.zeroValue85
  t201 := Tryd.underlying88
  a201 := Tryd.isAgg88
  z201 := Tryd.sizeOf88
  v201 := Tryd.zeroValue88
  t226 := Tryd.underlying96
  a226 := Tryd.isAgg96
  z226 := Tryd.sizeOf96
  v226 := Tryd.zeroValue96
  t227 := Tryd.underlying97
  a227 := Tryd.isAgg97
  z227 := Tryd.sizeOf97
  v227 := Tryd.zeroValue97
  g0 := by kernel_rfl
  g6 := by kernel_rfl }
open Go.RowKit Go.Lib in
/-- strings.Fields, the table by 'Lib.TabIs' (as strings.TrimSpace's contract). 'hg': the table's number, by its name: at a dump 'by kernel_rfl'. (LAID: no walk: one application.) -/
theorem Tryd.strings_Fields (s : ByteArray) (w : World) (hs : s.size < 4294967281) (hascii : ∀ (j : Nat) b, s.data.toList[j]? = some b → b.toNat < 128) (htab : Lib.TabIs Tryd.prog w "strings.asciiSpace" .u8 Lib.asciiSpaceTab) :
    Calls Tryd.prog 29 #[.string s] w fun e w' =>
      e = .returned (.slice (some ⟨w.heap.size, 0, none⟩) (Lib.fields s.data.toList).length (Lib.fields s.data.toList).length) ∧ w' = w.alloc (.cells ((Lib.fields s.data.toList).map fun l => Value.string ⟨l.toArray⟩).toArray 9) := Any.strings_Fields Tryd.lays157 (by kernel_rfl) (by kernel_rfl) s w hs hascii htab

end Go.Proofs
end

section
namespace Go.Vm
open Go.Proofs Go.RowKit Go.Shelf
/-- The text of the marks of two bytes, and its fields. -/
def twoL : List UInt8 := [58, 61, 32, 45, 62, 32, 60, 61, 32, 62, 61, 32, 60, 62]
def twoF : List (List D) := [[.str (bs [58, 61])], [.str (bs [45, 62])], [.str (bs [60, 61])], [.str (bs [62, 61])], [.str (bs [60, 62])]]
/-- What is known of functions from elsewhere: strings.Fields at the text of the marks. -/
def kn : FuncId → List V → Option PRes := fun f args => match Nat.beq f 29, args with
  | true, [.d (.str s)] => match decide (s.data.toList = twoL) with
    | true => some (.val [.sl 1 twoF])
    | false => none
  | _, _ => none
theorem fields_two : Lib.fields twoL = [[58, 61], [45, 62], [60, 61], [62, 61], [60, 62]] := by decide +kernel
theorem tab_cell {Z : Nat → Nat → Prop} {w : World} (h : TabOK Z w) (c : Nat) (hc : c < 256) : w.cell? ⟨0, c, none⟩ = some (.int .u8 (if Lib.isSp (UInt8.ofNat c) then 1 else 0)) := by
  have h1 := (h.2 (0, Lib.asciiSpaceTab.map fun n => Value.int .u8 n) (by simp [gV]) c (.int .u8 (Lib.asciiSpaceTab.getD c 0)) (by
    rw [List.getElem?_map, List.getD_eq_getElem?_getD]
    have : c < Lib.asciiSpaceTab.length := by rw [Lib.asciiSpaceTab_length]; exact hc
    simp [this])).2
  rwa [Lib.asciiSpaceTab_at c hc] at h1
theorem fr_of_below {w w' : World} (h : Below w.heap.size w w') : Fr (fun _ => False) w w' := ⟨h.os, h.tape, h.output, h.size, fun k hk _ => h.block k hk⟩
theorem kv_good : KV Tryd.prog := by
  intro s hs g w us hsim hu
  obtain ⟨h1, h2⟩ := hu
  match us, h1 with
  | [u0, u1, u2], _ =>
    have e0 := rep_str_inv (h2 0 u0 _ rfl rfl)
    have e1 := rep_int_inv (h2 1 u1 _ rfl rfl)
    have e2 := rep_int_inv (h2 2 u2 _ rfl rfl)
    subst e0; subst e1; subst e2
    have fin : ∀ (v : Value) (n : Int) (b : Bool) (w' : World), Below w.heap.size w w' → (∀ (g' : Gh), Rep w' g' v (.ifn b)) → ∃ u g', Ending.returned (.tuple #[.int .i64 n, v]) = .returned u ∧ Rep w' g' u (.tup [.d (.int .i64 n), .ifn b]) ∧ Keep [] g [] w g' [] w' := by
      intro v n b w' hb hv
      refine ⟨_, g, rfl, .tup _ _ rfl fun i u c hu hc => ?_, Keep.of_fr hsim (fr_of_below hb)⟩
      match i with
      | 0 => simp at hu hc; subst hu; subst hc; exact .d (.int _ _)
      | 1 => simp at hu hc; subst hu; subst hc; exact hv g
      | i + 2 => simp at hc
    show Calls Tryd.prog 26 #[.string s, .int .i64 10, .int .i64 64] w _
    unfold pnumI pokB
    cases hp : Lib.parseIntB 64 s.data.toList with
    | ok v =>
      refine (Tryd.strconv_ParseInt_10_at64_ok s (by omega) v hp w).mono ?_
      rintro e w' ⟨rfl, hw⟩
      refine fin _ _ _ _ ?_ fun _ => .ifn0
      rcases hw with rfl | ⟨t, rfl⟩
      · exact Below.refl _ _
      · exact Lib.bytesWorld_below _ _ _
    | range =>
      obtain ⟨_, te, pe, hc⟩ := hsim.tab.1 4 (by simp [gI])
      refine (Tryd.strconv_ParseInt_10_at64_range s (by omega) hp _ w hc (.inr ⟨_, _, rfl⟩)).mono ?_
      rintro e w' ⟨N, rfl, _, _, hb⟩
      exact fin _ _ _ _ hb fun _ => .ifn1 _ _
    | _ =>
      obtain ⟨_, te, pe, hc⟩ := hsim.tab.1 3 (by simp [gI])
      have q : Calls Tryd.prog 26 #[.string s, .int .i64 10, .int .i64 64] w fun e w' => ∃ N, e = .returned (.tuple #[.int .i64 (0), .iface 56 (.pointer (some ⟨N, 0, none⟩))]) ∧ w.heap.size ≤ N ∧ w'.heap[N]? = some (.cells #[.string ⟨#[80, 97, 114, 115, 101, 73, 110, 116]⟩, .string s, .iface te pe] 73 (0, 0)) ∧ Below w.heap.size w w' := Any.strconv_ParseInt_10_at64_syntax Tryd.laysC174 s (by omega) hp _ w hc (.inr ⟨_, _, rfl⟩)
      refine q.mono ?_
      rintro e w' ⟨N, rfl, _, _, hb⟩
      exact fin _ _ _ _ hb fun _ => .ifn1 _ _
theorem kn_good : KGood Tryd.prog kn := by
  refine ⟨kv_good, fun f args p ha h => ?_⟩
  unfold kn at h
  split at h
  · rename_i s hf
    split at h
    · rename_i hd
      have hf := Nat.eq_of_beq_eq_true hf
      subst hf
      have hd := of_decide_eq_true hd
      cases h
      refine ⟨[42], [.sl 1], .d (.sl 1 twoF), by kernel_rfl, by kernel_rfl, rfl, by kernel_rfl, fun g w us hsim hu => ?_⟩
      obtain ⟨h1, h2⟩ := hu
      match us, h1 with
      | [u0], _ =>
        have e0 := rep_str_inv (h2 0 u0 _ rfl rfl)
        subst e0
        have hsz : s.size = 14 := by
          have : s.data.toList.length = twoL.length := by rw [hd]
          simpa [twoL] using this
        have L := Any.strings_Fields_core Tryd.lays157 (by kernel_rfl) s w (by omega) (fun j b hb => by
          rw [hd] at hb
          have := List.mem_of_getElem? hb
          have hall : ∀ b ∈ twoL, b.toNat < 128 := by decide
          exact hall b this) (fun c hc => tab_cell hsim.tab c hc)
        refine L.mono ?_
        rintro e w' ⟨rfl, rfl⟩
        rw [hd, fields_two]
        refine ⟨_, _, rfl, ?_, Keep.newZ hsim _ _⟩
        have hcell : ∀ (i : Nat) (v : Value), (([[58, 61], [45, 62], [60, 61], [62, 61], [60, 62]] : List (List UInt8)).map fun l => Value.string ⟨l.toArray⟩).toArray[i]? = some v → (w.alloc (.cells (([[58, 61], [45, 62], [60, 61], [62, 61], [60, 62]] : List (List UInt8)).map fun l => Value.string ⟨l.toArray⟩).toArray 9)).cell? ⟨w.heap.size, i, none⟩ = some v := by
          intro i v hv
          simp only [World.cell?, World.alloc, Array.getElem?_push, if_true]
          simpa using hv
        refine .d (.sl _ 0 5 5 1 twoF (fun i j => .string (match twoF[i]? with
          | some [.str s] => s
          | _ => default)) rfl (Nat.le_refl _) ?_ ?_ ?_ ?_)
        · intro i r hr
          match i with
          | 0 | 1 | 2 | 3 | 4 => simp [twoF] at hr; subst hr; rfl
          | i + 5 => simp [twoF] at hr
        · intro i r j c hr hc; exact .inr rfl
        · intro i r j c hr hc
          match i, j with
          | 0, 0 | 1, 0 | 2, 0 | 3, 0 | 4, 0 => exact hcell _ _ rfl
          | 0, j + 1 | 1, j + 1 | 2, j + 1 | 3, j + 1 | 4, j + 1 => simp [twoF] at hr; subst hr; simp at hc
          | i + 5, j => simp [twoF] at hr
        · intro i r j c hr hc
          match i, j with
          | 0, 0 | 1, 0 | 2, 0 | 3, 0 | 4, 0 => simp [twoF] at hr; subst hr; simp at hc; subst hc; exact .str _
          | 0, j + 1 | 1, j + 1 | 2, j + 1 | 3, j + 1 | 4, j + 1 => simp [twoF] at hr; subst hr; simp at hc
          | i + 5, j => simp [twoF] at hr
    · cases h
  · cases h
end Go.Vm
end

section
namespace Go.Vm
open Go.Proofs
noncomputable def cF (f : FuncId) (args : List V) : Option PRes := callF Tryd.prog cs kn f args
noncomputable def eF : Env := envF (callF Tryd.prog cs kn)
theorem eF_call (f : FuncId) (args : List V) : eF.call f args = cF f args := rfl
theorem eF_lp {α : Type} (b : List D → Option (List D ⊕ α)) (ds : List D) : eF.lp b ds = loopF b ds := rfl
theorem cOf {f : FuncId} {args : List V} {p : PRes} (hg : goodF Tryd.prog f = true) (hk : kn f args = none) (h : (funT sy Tryd.prog cs f args).run eF = some p) : cF f args = some p := callF_of hg hk h
theorem cOfE {α : Type} {f : FuncId} {args : List V} {p : α → PRes} (hg : goodF Tryd.prog f = true) (hk : kn f args = none) (h : ∃ x, (funT sy Tryd.prog cs f args).run eF = some (p x)) : ∃ x, cF f args = some (p x) := h.imp fun _ h => callF_of hg hk h
theorem cOfP {f : FuncId} {args : List V} {Q : PRes → Prop} (hg : goodF Tryd.prog f = true) (hk : kn f args = none) (h : ∃ p, (funT sy Tryd.prog cs f args).run eF = some p ∧ Q p) : ∃ p, cF f args = some p ∧ Q p := h.imp fun _ h => ⟨callF_of hg hk h.1, h.2⟩
theorem some_and {α : Type} {a : α} {Q : α → Prop} : (∃ p, some a = some p ∧ Q p) ↔ Q a := by simp
theorem decT {p : Prop} [Decidable p] (h : p) : decide p = true := decide_eq_true h
theorem decF {p : Prop} [Decidable p] (h : ¬ p) : decide p = false := decide_eq_false h
theorem inr_at {i n : Nat} (h : i < n) : decide (0 ≤ (i : Int) ∧ (i : Int) < (n : Int)) = true := decide_eq_true ⟨by omega, by omega⟩
theorem ilt_at {i n : Nat} (h : i < n) : decide ((i : Int) < (n : Int)) = true := decide_eq_true (by omega)
theorem ilt_self (n : Nat) : decide ((n : Int) < (n : Int)) = false := decide_eq_false (by omega)
theorem wrap_succ {i n : Nat} (h : i < n) (hn : n ≤ 1000000000000) : IntKind.i64.wrap ((i : Int) + 1) = (i : Int) + 1 := wrap_id (by omega) (by omega)
theorem mixedOrders : Tryd.prog.follows .mixedOrders = true := by kernel_rfl
end Go.Vm
end

section
set_option maxRecDepth 10000
namespace Go.Vm
/-- What steps are, in one. -/
theorem go1 : type_of% (And.intro @sy_wrap (And.intro @sy_add (And.intro @sy_sub (And.intro @sy_mul (And.intro @sy_ieq (And.intro @sy_ilt (And.intro @sy_ile (And.intro @sy_seq (And.intro @sy_beq (And.intro @sy_bor (And.intro @sy_bnot (And.intro @sy_imax (And.intro @sy_imin (And.intro @sy_rlen (And.intro @sy_slen (And.intro @sy_sapp (And.intro @sy_inr (And.intro @sy_nat (And.intro @sy_cell0 (And.intro @sy_cellS (And.intro @sy_skip0 (And.intro @sy_inrn (And.intro @sy_rapp (And.intro @sy_fits (And.intro @sy_cutok (And.intro @sy_cut (And.intro @sy_scut (And.intro @sy_sbyte (And.intro @sy_mkok (And.intro @sy_mkok0 (And.intro @sy_mkz (And.intro @sy_rep (And.intro @sy_head (And.intro @sy_deq (And.intro @eqDs_int (And.intro @eqDs_nil (And.intro @opI_int (And.intro @opB_bool (And.intro @opS_str (And.intro @opL_sl (And.intro @opM_own (And.intro @leaves_val (And.intro @leaves_own (And.intro @cutO_bool (And.intro @bif_bool (And.intro @cutO_inl (And.intro @cutO_inr (And.intro @eF_call (And.intro @eF_lp (And.intro @Nat.zero_add (And.intro @Bool.cond_false_right (And.intro @Bool.cond_true_left (And.intro @Bool.cond_false_left (And.intro @Bool.cond_true_right (And.intro @Bool.not_true (And.intro @Bool.not_false (And.intro @Bool.not_not (And.intro @decide_true (And.intro @decide_false (And.intro @Bool.true_and (And.intro @Bool.and_true (And.intro @Bool.false_and (And.intro @Bool.and_false (And.intro @Bool.or_false (And.intro @Bool.false_or (And.intro @Bool.true_or (And.intro @Bool.or_true (And.intro @true_and (@and_true))))))))))))))))))))))))))))))))))))))))))))))))))))))))))))))))))))) := And.intro @sy_wrap (And.intro @sy_add (And.intro @sy_sub (And.intro @sy_mul (And.intro @sy_ieq (And.intro @sy_ilt (And.intro @sy_ile (And.intro @sy_seq (And.intro @sy_beq (And.intro @sy_bor (And.intro @sy_bnot (And.intro @sy_imax (And.intro @sy_imin (And.intro @sy_rlen (And.intro @sy_slen (And.intro @sy_sapp (And.intro @sy_inr (And.intro @sy_nat (And.intro @sy_cell0 (And.intro @sy_cellS (And.intro @sy_skip0 (And.intro @sy_inrn (And.intro @sy_rapp (And.intro @sy_fits (And.intro @sy_cutok (And.intro @sy_cut (And.intro @sy_scut (And.intro @sy_sbyte (And.intro @sy_mkok (And.intro @sy_mkok0 (And.intro @sy_mkz (And.intro @sy_rep (And.intro @sy_head (And.intro @sy_deq (And.intro @eqDs_int (And.intro @eqDs_nil (And.intro @opI_int (And.intro @opB_bool (And.intro @opS_str (And.intro @opL_sl (And.intro @opM_own (And.intro @leaves_val (And.intro @leaves_own (And.intro @cutO_bool (And.intro @bif_bool (And.intro @cutO_inl (And.intro @cutO_inr (And.intro @eF_call (And.intro @eF_lp (And.intro @Nat.zero_add (And.intro @Bool.cond_false_right (And.intro @Bool.cond_true_left (And.intro @Bool.cond_false_left (And.intro @Bool.cond_true_right (And.intro @Bool.not_true (And.intro @Bool.not_false (And.intro @Bool.not_not (And.intro @decide_true (And.intro @decide_false (And.intro @Bool.true_and (And.intro @Bool.and_true (And.intro @Bool.false_and (And.intro @Bool.and_false (And.intro @Bool.or_false (And.intro @Bool.false_or (And.intro @Bool.true_or (And.intro @Bool.or_true (And.intro @true_and (@and_true))))))))))))))))))))))))))))))))))))))))))))))))))))))))))))))))))))
end Go.Vm
end

section
namespace Go.Vm
/-! ### steps through a printed function whose data have known shapes -/
section
variable {α β : Type}
theorem st_bind {v : Option α} {f : α → Option β} {n : α} {p : β} (h : v = some n) (k : f n = some p) : v.bind f = some p := by rw [h]; exact k
theorem st_cut {X : Option (List D ⊕ α)} {K : List D → Option α} {ds : List D} {p : α} (h : X = some (.inl ds)) (k : K ds = some p) : cutO X K = some p := by rw [h]; exact k
theorem st_t {c : Bool} {a b : Option α} {p : α} (h : c = true) (k : a = some p) : (bif c then a else b) = some p := by rw [h]; exact k
theorem st_f {c : Bool} {a b : Option α} {p : α} (h : c = false) (k : b = some p) : (bif c then a else b) = some p := by rw [h]; exact k
theorem st_opI {v : Option D} {k : IntKind} {n : Int} (h : v = some (.int k n)) : opI v k = some n := by rw [h]; simp [opI]
theorem st_opB {v : Option D} {n : Bool} (h : v = some (.bool n)) : opB v = some n := by rw [h]; rfl
theorem st_opL {v : Option D} {sz : Nat} {n : List (List D)} (h : v = some (.sl sz n)) : opL v sz = some n := by rw [h]; simp [opL]
/-- What a round's answer leads to. -/
noncomputable def lpK (b : List D → Option (List D ⊕ α)) : List D ⊕ α → Option α
  | .inl ds => eF.lp b ds
  | .inr a => some a
theorem st_lp {b : List D → Option (List D ⊕ α)} {ds : List D} {r : List D ⊕ α} {p : α} (h : b ds = some r) (k : lpK b r = some p) : eF.lp b ds = some p := by
  show loopF b ds = some p
  rw [loopF_eq, h]
  cases r with
  | inl d => exact k
  | inr a => exact k
theorem st_inl {b : List D → Option (List D ⊕ α)} {ds : List D} {p : α} (k : eF.lp b ds = some p) : lpK b (.inl ds) = some p := k
theorem st_inr {b : List D → Option (List D ⊕ α)} {a : α} : lpK b (.inr a) = some a := rfl
theorem st_some {a : α} : some a = some a := rfl
end
end Go.Vm
end

section
set_option maxRecDepth 1000000
set_option maxHeartbeats 0
namespace Go.Vm
open Go.Proofs
def g11 (A : Sy) (E : Env) (c_ : Int) : Option PRes :=
 cutO (
  bif (A.ieq c_ 32) then
   some (.inl [(.bool true)])
  else
   some (.inl [(.bool (A.ieq c_ 9))])
 ) fun ds1 =>
 (opB (A.cell ds1 0)).bind fun b2 =>
 cutO (
  bif b2 then
   some (.inl [(.bool true)])
  else
   some (.inl [(.bool (A.ieq c_ 10))])
 ) fun ds3 =>
 (opB (A.cell ds3 0)).bind fun b4 =>
 cutO (
  bif b4 then
   some (.inl [(.bool true)])
  else
   some (.inl [(.bool (A.ieq c_ 13))])
 ) fun ds5 =>
 (opB (A.cell ds5 0)).bind fun b6 =>
 some (PRes.val [(.bool b6)])
theorem g11_eq (A : Sy) (E : Env) (c_ : Int) : (funT A Tryd.prog cs 11 [V.d (.int .u8 c_)]).run E = g11 A E c_ := by kernel_rfl
def g13 (A : Sy) (E : Env) (c_ : Int) : Option PRes :=
 some (PRes.val [(.bool (A.bnot (A.ieq c_ 10)))])
theorem g13_eq (A : Sy) (E : Env) (c_ : Int) : (funT A Tryd.prog cs 13 [V.d (.int .u8 c_)]).run E = g13 A E c_ := by kernel_rfl
def g14 (A : Sy) (E : Env) (c_ : Int) : Option PRes :=
 cutO (
  bif (A.ile 97 c_) then
   some (.inl [(.bool (A.ile c_ 122))])
  else
   some (.inl [(.bool false)])
 ) fun ds1 =>
 (opB (A.cell ds1 0)).bind fun b2 =>
 some (PRes.val [(.bool b2)])
theorem g14_eq (A : Sy) (E : Env) (c_ : Int) : (funT A Tryd.prog cs 14 [V.d (.int .u8 c_)]).run E = g14 A E c_ := by kernel_rfl
def g15 (A : Sy) (E : Env) (c_ : Int) : Option PRes :=
 cutO (
  bif (A.ile 65 c_) then
   some (.inl [(.bool (A.ile c_ 90))])
  else
   some (.inl [(.bool false)])
 ) fun ds1 =>
 (opB (A.cell ds1 0)).bind fun b2 =>
 some (PRes.val [(.bool b2)])
theorem g15_eq (A : Sy) (E : Env) (c_ : Int) : (funT A Tryd.prog cs 15 [V.d (.int .u8 c_)]).run E = g15 A E c_ := by kernel_rfl
def g17 (A : Sy) (E : Env) (c_ : Int) : Option PRes :=
 cutO (
  bif (A.ile 48 c_) then
   some (.inl [(.bool (A.ile c_ 57))])
  else
   some (.inl [(.bool false)])
 ) fun ds1 =>
 (opB (A.cell ds1 0)).bind fun b2 =>
 some (PRes.val [(.bool b2)])
theorem g17_eq (A : Sy) (E : Env) (c_ : Int) : (funT A Tryd.prog cs 17 [V.d (.int .u8 c_)]).run E = g17 A E c_ := by kernel_rfl
def g22 (A : Sy) (E : Env) (c_ : Int) : Option PRes :=
 (E.call 14 [(.d (.int .u8 c_))]).bind fun p1 =>
 (opB (A.cell p1.leaves 0)).bind fun b3 =>
 cutO (
  bif b3 then
   some (.inl [(.bool true)])
  else
   (E.call 15 [(.d (.int .u8 c_))]).bind fun p4 =>
   (opB (A.cell p4.leaves 0)).bind fun b6 =>
   some (.inl [(.bool b6)])
 ) fun ds7 =>
 (opB (A.cell ds7 0)).bind fun b8 =>
 cutO (
  bif b8 then
   some (.inl [(.bool true)])
  else
   (E.call 17 [(.d (.int .u8 c_))]).bind fun p9 =>
   (opB (A.cell p9.leaves 0)).bind fun b11 =>
   some (.inl [(.bool b11)])
 ) fun ds12 =>
 (opB (A.cell ds12 0)).bind fun b13 =>
 cutO (
  bif b13 then
   some (.inl [(.bool true)])
  else
   some (.inl [(.bool (A.ieq c_ 95))])
 ) fun ds14 =>
 (opB (A.cell ds14 0)).bind fun b15 =>
 some (PRes.val [(.bool b15)])
theorem g22_eq (A : Sy) (E : Env) (c_ : Int) : (funT A Tryd.prog cs 22 [V.d (.int .u8 c_)]).run E = g22 A E c_ := by kernel_rfl
def g10_11 (A : Sy) (E : Env)(s_ : ByteArray) : Option PRes :=
 E.lp (fun ds1 =>
  (opS (A.cell ds1 0)).bind fun s2 =>
  (opI (A.cell ds1 1) .i64).bind fun n3 =>
  bif (A.ilt n3 (A.slen s2)) then
   bif (A.inr n3 (A.slen s2)) then
    (E.call 11 [(.d (.int .u8 (A.sbyte s2 n3)))]).bind fun p4 =>
    (opB (A.cell p4.leaves 0)).bind fun b6 =>
    bif b6 then
     some (.inl [(.str s2), (.int .i64 (A.wrap .i64 (A.add n3 1)))])
    else
     some (.inr (PRes.val [(.int .i64 n3)]))
   else
    none
  else
   some (.inr (PRes.val [(.int .i64 n3)]))
 ) [(.str s_), (.int .i64 0)]
theorem g10_11_eq (A : Sy) (E : Env)(s_ : ByteArray) : (funT A Tryd.prog cs 10 [V.d (.str s_), V.fn 11 []]).run E = g10_11 A E s_ := by kernel_rfl
def g10_13 (A : Sy) (E : Env)(s_ : ByteArray) : Option PRes :=
 E.lp (fun ds1 =>
  (opS (A.cell ds1 0)).bind fun s2 =>
  (opI (A.cell ds1 1) .i64).bind fun n3 =>
  bif (A.ilt n3 (A.slen s2)) then
   bif (A.inr n3 (A.slen s2)) then
    (E.call 13 [(.d (.int .u8 (A.sbyte s2 n3)))]).bind fun p4 =>
    (opB (A.cell p4.leaves 0)).bind fun b6 =>
    bif b6 then
     some (.inl [(.str s2), (.int .i64 (A.wrap .i64 (A.add n3 1)))])
    else
     some (.inr (PRes.val [(.int .i64 n3)]))
   else
    none
  else
   some (.inr (PRes.val [(.int .i64 n3)]))
 ) [(.str s_), (.int .i64 0)]
theorem g10_13_eq (A : Sy) (E : Env)(s_ : ByteArray) : (funT A Tryd.prog cs 10 [V.d (.str s_), V.fn 13 []]).run E = g10_13 A E s_ := by kernel_rfl
def g10_22 (A : Sy) (E : Env)(s_ : ByteArray) : Option PRes :=
 E.lp (fun ds1 =>
  (opS (A.cell ds1 0)).bind fun s2 =>
  (opI (A.cell ds1 1) .i64).bind fun n3 =>
  bif (A.ilt n3 (A.slen s2)) then
   bif (A.inr n3 (A.slen s2)) then
    (E.call 22 [(.d (.int .u8 (A.sbyte s2 n3)))]).bind fun p4 =>
    (opB (A.cell p4.leaves 0)).bind fun b6 =>
    bif b6 then
     some (.inl [(.str s2), (.int .i64 (A.wrap .i64 (A.add n3 1)))])
    else
     some (.inr (PRes.val [(.int .i64 n3)]))
   else
    none
  else
   some (.inr (PRes.val [(.int .i64 n3)]))
 ) [(.str s_), (.int .i64 0)]
theorem g10_22_eq (A : Sy) (E : Env)(s_ : ByteArray) : (funT A Tryd.prog cs 10 [V.d (.str s_), V.fn 22 []]).run E = g10_22 A E s_ := by kernel_rfl
def g10_17 (A : Sy) (E : Env)(s_ : ByteArray) : Option PRes :=
 E.lp (fun ds1 =>
  (opS (A.cell ds1 0)).bind fun s2 =>
  (opI (A.cell ds1 1) .i64).bind fun n3 =>
  bif (A.ilt n3 (A.slen s2)) then
   bif (A.inr n3 (A.slen s2)) then
    (E.call 17 [(.d (.int .u8 (A.sbyte s2 n3)))]).bind fun p4 =>
    (opB (A.cell p4.leaves 0)).bind fun b6 =>
    bif b6 then
     some (.inl [(.str s2), (.int .i64 (A.wrap .i64 (A.add n3 1)))])
    else
     some (.inr (PRes.val [(.int .i64 n3)]))
   else
    none
  else
   some (.inr (PRes.val [(.int .i64 n3)]))
 ) [(.str s_), (.int .i64 0)]
theorem g10_17_eq (A : Sy) (E : Env)(s_ : ByteArray) : (funT A Tryd.prog cs 10 [V.d (.str s_), V.fn 17 []]).run E = g10_17 A E s_ := by kernel_rfl
def g8 (A : Sy) (E : Env) (s_ : ByteArray) : Option PRes :=
 E.lp (fun ds1 =>
  (opS (A.cell ds1 0)).bind fun s2 =>
  (opI (A.cell ds1 1) .i64).bind fun n3 =>
  bif (A.cutok n3 (A.slen s2) (A.slen s2)) then
   (E.call 10 [(.d (.str (A.scut s2 n3 (A.slen s2)))), (.fn 11 [])]).bind fun p4 =>
   (opI (A.cell p4.leaves 0) .i64).bind fun n6 =>
   bif (A.cutok (A.wrap .i64 (A.add n3 n6)) (A.slen s2) (A.slen s2)) then
    (E.call 12 [(.d (.str (A.scut s2 (A.wrap .i64 (A.add n3 n6)) (A.slen s2)))), (.d (.str (bs [45, 45])))]).bind fun p7 =>
    (opB (A.cell p7.leaves 0)).bind fun b9 =>
    bif b9 then
     bif (A.cutok (A.wrap .i64 (A.add n3 n6)) (A.slen s2) (A.slen s2)) then
      (E.call 10 [(.d (.str (A.scut s2 (A.wrap .i64 (A.add n3 n6)) (A.slen s2)))), (.fn 13 [])]).bind fun p10 =>
      (opI (A.cell p10.leaves 0) .i64).bind fun n12 =>
      some (.inl [(.str s2), (.int .i64 (A.wrap .i64 (A.add (A.wrap .i64 (A.add n3 n6)) n12)))])
     else
      none
    else
     some (.inr (PRes.val [(.int .i64 (A.wrap .i64 (A.add n3 n6)))]))
   else
    none
  else
   none
 ) [(.str s_), (.int .i64 0)]
theorem g8_eq (A : Sy) (E : Env) (s_ : ByteArray) : (funT A Tryd.prog cs 8 [V.d (.str s_)]).run E = g8 A E s_ := by kernel_rfl
def g16 (A : Sy) (E : Env) (s_ : ByteArray) : Option PRes :=
 (E.call 10 [(.d (.str s_)), (.fn 22 [])]).bind fun p1 =>
 (opI (A.cell p1.leaves 0) .i64).bind fun n3 =>
 bif (A.cutok 0 n3 (A.slen s_)) then
  bif (A.inr 0 (A.slen (A.scut s_ 0 n3))) then
   (E.call 15 [(.d (.int .u8 (A.sbyte (A.scut s_ 0 n3) 0)))]).bind fun p4 =>
   (opB (A.cell p4.leaves 0)).bind fun b6 =>
   bif b6 then
    (E.call 23 [(.d (.str (A.scut s_ 0 n3)))]).bind fun p7 =>
    (opB (A.cell p7.leaves 0)).bind fun b9 =>
    some (PRes.val [(.int .i64 2), (.str (A.scut s_ 0 n3)), (.int .i64 0), (.int .i64 0), (.int .i64 (A.slen (A.scut s_ 0 n3))), (.bool b9)])
   else
    (E.call 24 [(.d (.str (A.scut s_ 0 n3)))]).bind fun p10 =>
    (opB (A.cell p10.leaves 0)).bind fun b12 =>
    cutO (
     bif b12 then
      some (.inl [(.bool true)])
     else
      (E.call 25 [(.d (.str (A.scut s_ 0 n3)))]).bind fun p13 =>
      (opB (A.cell p13.leaves 0)).bind fun b15 =>
      some (.inl [(.bool b15)])
    ) fun ds16 =>
    (opB (A.cell ds16 0)).bind fun b17 =>
    some (PRes.val [(.int .i64 1), (.str (A.scut s_ 0 n3)), (.int .i64 0), (.int .i64 0), (.int .i64 (A.slen (A.scut s_ 0 n3))), (.bool b17)])
  else
   none
 else
  none
theorem g16_eq (A : Sy) (E : Env) (s_ : ByteArray) : (funT A Tryd.prog cs 16 [V.d (.str s_)]).run E = g16 A E s_ := by kernel_rfl
def g18 (A : Sy) (E : Env) (s_ : ByteArray) : Option PRes :=
 (E.call 10 [(.d (.str s_)), (.fn 17 [])]).bind fun p1 =>
 (opI (A.cell p1.leaves 0) .i64).bind fun n3 =>
 bif (A.cutok 0 n3 (A.slen s_)) then
  bif (A.ile (A.slen (A.scut s_ 0 n3)) 1000000) then
   cutO (
    bif (A.pok (A.scut s_ 0 n3)) then
     bif (A.inr 0 (A.slen (A.scut s_ 0 n3))) then
      bif (A.bnot (A.ieq (A.sbyte (A.scut s_ 0 n3) 0) 48)) then
       some (.inl [(.bool true)])
      else
       some (.inl [(.bool (A.ieq (A.slen (A.scut s_ 0 n3)) 1))])
     else
      none
    else
     some (.inl [(.bool false)])
   ) fun ds4 =>
   (opB (A.cell ds4 0)).bind fun b5 =>
   some (PRes.val [(.int .i64 3), (.str (A.scut s_ 0 n3)), (.int .i64 (A.pnum (A.scut s_ 0 n3))), (.int .i64 0), (.int .i64 (A.slen (A.scut s_ 0 n3))), (.bool b5)])
  else
   none
 else
  none
theorem g18_eq (A : Sy) (E : Env) (s_ : ByteArray) : (funT A Tryd.prog cs 18 [V.d (.str s_)]).run E = g18 A E s_ := by kernel_rfl
def g19 (A : Sy) (E : Env) (s_ : ByteArray) : Option PRes :=
 bif (A.cutok 1 (A.slen s_) (A.slen s_)) then
  (E.call 27 [(.d (.str (A.scut s_ 1 (A.slen s_)))), (.d (.str (bs [39])))]).bind fun p1 =>
  (opI (A.cell p1.leaves 0) .i64).bind fun n3 =>
  bif (A.ilt n3 0) then
   some (PRes.val [(.int .i64 0), (.str (bs [])), (.int .i64 0), (.int .i64 0), (.int .i64 0), (.bool false)])
  else
   bif (A.cutok 1 (A.wrap .i64 (A.add n3 1)) (A.slen s_)) then
    (E.call 28 [(.d (.str (A.scut s_ 1 (A.wrap .i64 (A.add n3 1)))))]).bind fun p4 =>
    (opB (A.cell p4.leaves 0)).bind fun b6 =>
    some (PRes.val [(.int .i64 4), (.str (A.scut s_ 1 (A.wrap .i64 (A.add n3 1)))), (.int .i64 0), (.int .i64 0), (.int .i64 (A.wrap .i64 (A.add n3 2))), (.bool b6)])
   else
    none
 else
  none
theorem g19_eq (A : Sy) (E : Env) (s_ : ByteArray) : (funT A Tryd.prog cs 19 [V.d (.str s_)]).run E = g19 A E s_ := by kernel_rfl
def g20 (A : Sy) (E : Env) (s_ : ByteArray) : Option PRes :=
 (E.call 29 [(.d (.str (bs [58, 61, 32, 45, 62, 32, 60, 61, 32, 62, 61, 32, 60, 62])))]).bind fun p1 =>
 (opL (A.cell p1.leaves 0) 1).bind fun l3 =>
 E.lp (fun ds4 =>
  (opS (A.cell ds4 0)).bind fun s5 =>
  (opL (A.cell ds4 1) 1).bind fun l6 =>
  (opI (A.cell ds4 2) .i64).bind fun n7 =>
  (opI (A.cell ds4 3) .i64).bind fun n8 =>
  (opI (A.cell ds4 4) .i64).bind fun n9 =>
  (opS (A.cell ds4 5)).bind fun s10 =>
  (opI (A.cell ds4 6) .i64).bind fun n11 =>
  (opI (A.cell ds4 7) .i64).bind fun n12 =>
  bif (A.ilt n8 n7) then
   bif (A.inr n8 (A.rlen l6)) then
    (opS (A.cell (A.row l6 n8) 0)).bind fun s13 =>
    (E.call 12 [(.d (.str s5)), (.d (.str s13))]).bind fun p14 =>
    (opB (A.cell p14.leaves 0)).bind fun b16 =>
    bif b16 then
     some (.inr (PRes.val [(.int .i64 5), (.str s13), (.int .i64 0), (.int .i64 0), (.int .i64 (A.slen s13)), (.bool true)]))
    else
     some (.inl [(.str s5), (.sl 1 l6), (.int .i64 n7), (.int .i64 (A.wrap .i64 (A.add n8 1))), (.int .i64 n9), (.str s10), (.int .i64 n11), (.int .i64 n12)])
   else
    none
  else
   bif (A.inr 0 (A.slen s5)) then
    (E.call 30 [(.d (.str (bs [40, 41, 123, 125, 91, 93, 44, 59, 58, 61, 60, 62, 43, 45, 42, 47]))), (.d (.int .u8 (A.sbyte s5 0)))]).bind fun p17 =>
    (opI (A.cell p17.leaves 0) .i64).bind fun n19 =>
    bif (A.ilt n19 0) then
     some (.inr (PRes.val [(.int .i64 0), (.str (bs [])), (.int .i64 0), (.int .i64 0), (.int .i64 0), (.bool false)]))
    else
     bif (A.cutok 0 1 (A.slen s5)) then
      some (.inr (PRes.val [(.int .i64 5), (.str (A.scut s5 0 1)), (.int .i64 0), (.int .i64 0), (.int .i64 1), (.bool true)]))
     else
      none
   else
    none
 ) [(.str s_), (.sl 1 l3), (.int .i64 (A.rlen l3)), (.int .i64 0), (.int .i64 0), (.str (bs [])), (.int .i64 0), (.int .i64 0)]
theorem g20_eq (A : Sy) (E : Env) (s_ : ByteArray) : (funT A Tryd.prog cs 20 [V.d (.str s_)]).run E = g20 A E s_ := by kernel_rfl
def g9 (A : Sy) (E : Env) (s_ : ByteArray) : Option PRes :=
 bif (A.inr 0 (A.slen s_)) then
  (E.call 14 [(.d (.int .u8 (A.sbyte s_ 0)))]).bind fun p1 =>
  (opB (A.cell p1.leaves 0)).bind fun b3 =>
  bif b3 then
   (E.call 16 [(.d (.str s_))]).bind fun p4 =>
   (opI (A.cell p4.leaves 0) .i64).bind fun n6 =>
   (opS (A.cell p4.leaves 1)).bind fun s7 =>
   (opI (A.cell p4.leaves 2) .i64).bind fun n8 =>
   (opI (A.cell p4.leaves 3) .i64).bind fun n9 =>
   (opI (A.cell p4.leaves 4) .i64).bind fun n10 =>
   (opB (A.cell p4.leaves 5)).bind fun b11 =>
   some (PRes.val [(.int .i64 n6), (.str s7), (.int .i64 n8), (.int .i64 n9), (.int .i64 n10), (.bool b11)])
  else
   (E.call 15 [(.d (.int .u8 (A.sbyte s_ 0)))]).bind fun p12 =>
   (opB (A.cell p12.leaves 0)).bind fun b14 =>
   bif b14 then
    (E.call 16 [(.d (.str s_))]).bind fun p15 =>
    (opI (A.cell p15.leaves 0) .i64).bind fun n17 =>
    (opS (A.cell p15.leaves 1)).bind fun s18 =>
    (opI (A.cell p15.leaves 2) .i64).bind fun n19 =>
    (opI (A.cell p15.leaves 3) .i64).bind fun n20 =>
    (opI (A.cell p15.leaves 4) .i64).bind fun n21 =>
    (opB (A.cell p15.leaves 5)).bind fun b22 =>
    some (PRes.val [(.int .i64 n17), (.str s18), (.int .i64 n19), (.int .i64 n20), (.int .i64 n21), (.bool b22)])
   else
    (E.call 17 [(.d (.int .u8 (A.sbyte s_ 0)))]).bind fun p23 =>
    (opB (A.cell p23.leaves 0)).bind fun b25 =>
    bif b25 then
     (E.call 18 [(.d (.str s_))]).bind fun p26 =>
     (opI (A.cell p26.leaves 0) .i64).bind fun n28 =>
     (opS (A.cell p26.leaves 1)).bind fun s29 =>
     (opI (A.cell p26.leaves 2) .i64).bind fun n30 =>
     (opI (A.cell p26.leaves 3) .i64).bind fun n31 =>
     (opI (A.cell p26.leaves 4) .i64).bind fun n32 =>
     (opB (A.cell p26.leaves 5)).bind fun b33 =>
     some (PRes.val [(.int .i64 n28), (.str s29), (.int .i64 n30), (.int .i64 n31), (.int .i64 n32), (.bool b33)])
    else
     bif (A.cutok 0 1 (A.slen s_)) then
      bif (A.seq (A.scut s_ 0 1) (bs [39])) then
       (E.call 19 [(.d (.str s_))]).bind fun p34 =>
       (opI (A.cell p34.leaves 0) .i64).bind fun n36 =>
       (opS (A.cell p34.leaves 1)).bind fun s37 =>
       (opI (A.cell p34.leaves 2) .i64).bind fun n38 =>
       (opI (A.cell p34.leaves 3) .i64).bind fun n39 =>
       (opI (A.cell p34.leaves 4) .i64).bind fun n40 =>
       (opB (A.cell p34.leaves 5)).bind fun b41 =>
       some (PRes.val [(.int .i64 n36), (.str s37), (.int .i64 n38), (.int .i64 n39), (.int .i64 n40), (.bool b41)])
      else
       (E.call 20 [(.d (.str s_))]).bind fun p42 =>
       (opI (A.cell p42.leaves 0) .i64).bind fun n44 =>
       (opS (A.cell p42.leaves 1)).bind fun s45 =>
       (opI (A.cell p42.leaves 2) .i64).bind fun n46 =>
       (opI (A.cell p42.leaves 3) .i64).bind fun n47 =>
       (opI (A.cell p42.leaves 4) .i64).bind fun n48 =>
       (opB (A.cell p42.leaves 5)).bind fun b49 =>
       some (PRes.val [(.int .i64 n44), (.str s45), (.int .i64 n46), (.int .i64 n47), (.int .i64 n48), (.bool b49)])
     else
      none
 else
  none
theorem g9_eq (A : Sy) (E : Env) (s_ : ByteArray) : (funT A Tryd.prog cs 9 [V.d (.str s_)]).run E = g9 A E s_ := by kernel_rfl
def g6 (A : Sy) (E : Env) (s_ : ByteArray) (most_ : Int) : Option PRes :=
 bif (A.ilt most_ (A.slen s_)) then
  some (PRes.val [(.sl 4 []), (.int .i64 most_), (.int .i64 3)])
 else
  E.lp (fun ds1 =>
   (opS (A.cell ds1 0)).bind fun s2 =>
   (opI (A.cell ds1 1) .i64).bind fun n3 =>
   (opL (A.cell ds1 2) 4).bind fun l4 =>
   bif (A.cutok n3 (A.slen s2) (A.slen s2)) then
    (E.call 8 [(.d (.str (A.scut s2 n3 (A.slen s2))))]).bind fun p5 =>
    (opI (A.cell p5.leaves 0) .i64).bind fun n7 =>
    bif (A.ieq (A.wrap .i64 (A.add n3 n7)) (A.slen s2)) then
     bif (A.fits l4 [[(.int .i64 6), (.str (bs [])), (.int .i64 0), (.int .i64 (A.slen s2))]] 40) then
      some (.inr (PRes.val [(.sl 4 (A.rapp l4 [[(.int .i64 6), (.str (bs [])), (.int .i64 0), (.int .i64 (A.slen s2))]])), (.int .i64 (A.slen s2)), (.int .i64 0)]))
     else
      none
    else
     bif (A.cutok (A.wrap .i64 (A.add n3 n7)) (A.slen s2) (A.slen s2)) then
      (E.call 9 [(.d (.str (A.scut s2 (A.wrap .i64 (A.add n3 n7)) (A.slen s2))))]).bind fun p8 =>
      (opI (A.cell p8.leaves 0) .i64).bind fun n10 =>
      (opS (A.cell p8.leaves 1)).bind fun s11 =>
      (opI (A.cell p8.leaves 2) .i64).bind fun n12 =>
      (opI (A.cell p8.leaves 3) .i64).bind fun n13 =>
      (opI (A.cell p8.leaves 4) .i64).bind fun n14 =>
      (opB (A.cell p8.leaves 5)).bind fun b15 =>
      bif (A.bnot b15) then
       some (.inr (PRes.val [(.sl 4 []), (.int .i64 (A.wrap .i64 (A.add n3 n7))), (.int .i64 2)]))
      else
       bif (A.fits l4 [[(.int .i64 n10), (.str s11), (.int .i64 n12), (.int .i64 (A.wrap .i64 (A.add n3 n7)))]] 40) then
        some (.inl [(.str s2), (.int .i64 (A.wrap .i64 (A.add (A.wrap .i64 (A.add n3 n7)) n14))), (.sl 4 (A.rapp l4 [[(.int .i64 n10), (.str s11), (.int .i64 n12), (.int .i64 (A.wrap .i64 (A.add n3 n7)))]]))])
       else
        none
     else
      none
   else
    none
  ) [(.str s_), (.int .i64 0), (.sl 4 [])]
theorem g6_eq (A : Sy) (E : Env) (s_ : ByteArray) (most_ : Int) : (funT A Tryd.prog cs 6 [V.d (.str s_), V.d (.int .i64 most_)]).run E = g6 A E s_ most_ := by kernel_rfl
def g7 (A : Sy) (E : Env) (e_ : Int) : Option PRes :=
 some (PRes.val [(.int .i64 e_)])
theorem g7_eq (A : Sy) (E : Env) (e_ : Int) : (funT A Tryd.prog cs 7 [V.d (.int .i64 e_)]).run E = g7 A E e_ := by kernel_rfl
def g5 (A : Sy) (E : Env) : Option PRes :=
 (E.call 6 [(.d (.str (bs [120, 32, 58, 61, 32, 45, 49, 59, 32, 45, 45, 32, 121]))), (.d (.int .i64 50))]).bind fun p1 =>
 (opL (A.cell p1.leaves 0) 4).bind fun l3 =>
 (opI (A.cell p1.leaves 1) .i64).bind fun n4 =>
 (opI (A.cell p1.leaves 2) .i64).bind fun n5 =>
 (E.call 7 [(.d (.int .i64 n5))]).bind fun p6 =>
 (opI (A.cell p6.leaves 0) .i64).bind fun n8 =>
 cutO (
  bif (A.ieq n8 0) then
   some (.inl [(.bool (A.ieq n4 13))])
  else
   some (.inl [(.bool false)])
 ) fun ds9 =>
 (opB (A.cell ds9 0)).bind fun b10 =>
 cutO (
  bif b10 then
   some (.inl [(.bool (A.ieq (A.rlen l3) 6))])
  else
   some (.inl [(.bool false)])
 ) fun ds11 =>
 (opB (A.cell ds11 0)).bind fun b12 =>
 cutO (
  bif b12 then
   bif (A.inr 1 (A.rlen l3)) then
    (opS (A.cell (A.skip 1 (A.row l3 1)) 0)).bind fun s13 =>
    some (.inl [(.bool (A.seq s13 (bs [58, 61])))])
   else
    none
  else
   some (.inl [(.bool false)])
 ) fun ds14 =>
 (opB (A.cell ds14 0)).bind fun b15 =>
 cutO (
  bif b15 then
   bif (A.inr 3 (A.rlen l3)) then
    (opI (A.cell (A.skip 2 (A.row l3 3)) 0) .i64).bind fun n16 =>
    some (.inl [(.bool (A.ieq n16 1))])
   else
    none
  else
   some (.inl [(.bool false)])
 ) fun ds17 =>
 (opB (A.cell ds17 0)).bind fun b18 =>
 cutO (
  bif b18 then
   bif (A.inr 5 (A.rlen l3)) then
    (opI (A.cell (A.row l3 5) 0) .i64).bind fun n19 =>
    some (.inl [(.bool (A.ieq n19 6))])
   else
    none
  else
   some (.inl [(.bool false)])
 ) fun ds20 =>
 (opB (A.cell ds20 0)).bind fun b21 =>
 cutO (
  bif b21 then
   bif (A.inr 5 (A.rlen l3)) then
    (opI (A.cell (A.skip 3 (A.row l3 5)) 0) .i64).bind fun n22 =>
    some (.inl [(.bool (A.ieq n22 13))])
   else
    none
  else
   some (.inl [(.bool false)])
 ) fun ds23 =>
 (opB (A.cell ds23 0)).bind fun b24 =>
 some (PRes.val [(.bool b24)])
theorem g5_eq (A : Sy) (E : Env) : (funT A Tryd.prog cs 5 []).run E = g5 A E  := by kernel_rfl
def g3 (A : Sy) (E : Env) (s_ : ByteArray) : Option PRes :=
 bif (A.ilt 600 (A.slen s_)) then
  (E.call 5 []).bind fun p1 =>
  (opB (A.cell p1.leaves 0)).bind fun b3 =>
  some (PRes.val [(.bool b3)])
 else
  (E.call 6 [(.d (.str s_)), (.d (.int .i64 600))]).bind fun p4 =>
  (opL (A.cell p4.leaves 0) 4).bind fun l6 =>
  (opI (A.cell p4.leaves 1) .i64).bind fun n7 =>
  (opI (A.cell p4.leaves 2) .i64).bind fun n8 =>
  (E.call 7 [(.d (.int .i64 n8))]).bind fun p9 =>
  (opI (A.cell p9.leaves 0) .i64).bind fun n11 =>
  bif (A.bnot (A.ieq n11 0)) then
   cutO (
    bif (A.ieq (A.rlen l6) 0) then
     some (.inl [(.bool (A.ile 0 n7))])
    else
     some (.inl [(.bool false)])
   ) fun ds12 =>
   (opB (A.cell ds12 0)).bind fun b13 =>
   cutO (
    bif b13 then
     some (.inl [(.bool (A.ilt n7 (A.slen s_)))])
    else
     some (.inl [(.bool false)])
   ) fun ds14 =>
   (opB (A.cell ds14 0)).bind fun b15 =>
   cutO (
    bif b15 then
     (E.call 5 []).bind fun p16 =>
     (opB (A.cell p16.leaves 0)).bind fun b18 =>
     some (.inl [(.bool b18)])
    else
     some (.inl [(.bool false)])
   ) fun ds19 =>
   (opB (A.cell ds19 0)).bind fun b20 =>
   some (PRes.val [(.bool b20)])
  else
   E.lp (fun ds21 =>
    (opS (A.cell ds21 0)).bind fun s22 =>
    (opL (A.cell ds21 1) 4).bind fun l23 =>
    (opI (A.cell ds21 2) .i64).bind fun n24 =>
    (opI (A.cell ds21 3) .i64).bind fun n25 =>
    (opI (A.cell ds21 4) .i64).bind fun n26 =>
    bif (A.ilt n26 (A.rlen l23)) then
     bif (A.inr n26 (A.rlen l23)) then
      (opI (A.cell (A.row l23 n26) 0) .i64).bind fun n27 =>
      (opS (A.cell (A.row l23 n26) 1)).bind fun s28 =>
      (opI (A.cell (A.row l23 n26) 2) .i64).bind fun n29 =>
      (opI (A.cell (A.row l23 n26) 3) .i64).bind fun n30 =>
      bif (A.ieq n27 4) then
       bif (A.ilt n30 n25) then
        some (.inr (PRes.val [(.bool false)]))
       else
        bif (A.ilt (A.wrap .i64 (A.sub (A.slen s22) n30)) (A.wrap .i64 (A.add (A.slen s28) 2))) then
         some (.inr (PRes.val [(.bool false)]))
        else
         bif (A.bnot (A.ieq n27 4)) then
          bif (A.cutok n30 (A.wrap .i64 (A.add n30 (A.wrap .i64 (A.add (A.slen s28) 2)))) (A.slen s22)) then
           bif (A.bnot (A.seq (A.scut s22 n30 (A.wrap .i64 (A.add n30 (A.wrap .i64 (A.add (A.slen s28) 2))))) s28)) then
            some (.inr (PRes.val [(.bool false)]))
           else
            bif (A.bnot (A.beq (A.ieq n27 6) (A.ieq n26 (A.wrap .i64 (A.sub (A.rlen l23) 1))))) then
             some (.inr (PRes.val [(.bool false)]))
            else
             some (.inl [(.str s22), (.sl 4 l23), (.int .i64 n24), (.int .i64 (A.wrap .i64 (A.add n30 (A.wrap .i64 (A.add (A.slen s28) 2))))), (.int .i64 (A.wrap .i64 (A.add n26 1)))])
          else
           none
         else
          bif (A.bnot (A.beq (A.ieq n27 6) (A.ieq n26 (A.wrap .i64 (A.sub (A.rlen l23) 1))))) then
           some (.inr (PRes.val [(.bool false)]))
          else
           some (.inl [(.str s22), (.sl 4 l23), (.int .i64 n24), (.int .i64 (A.wrap .i64 (A.add n30 (A.wrap .i64 (A.add (A.slen s28) 2))))), (.int .i64 (A.wrap .i64 (A.add n26 1)))])
      else
       bif (A.ilt n30 n25) then
        some (.inr (PRes.val [(.bool false)]))
       else
        bif (A.ilt (A.wrap .i64 (A.sub (A.slen s22) n30)) (A.slen s28)) then
         some (.inr (PRes.val [(.bool false)]))
        else
         bif (A.bnot (A.ieq n27 4)) then
          bif (A.cutok n30 (A.wrap .i64 (A.add n30 (A.slen s28))) (A.slen s22)) then
           bif (A.bnot (A.seq (A.scut s22 n30 (A.wrap .i64 (A.add n30 (A.slen s28)))) s28)) then
            some (.inr (PRes.val [(.bool false)]))
           else
            bif (A.bnot (A.beq (A.ieq n27 6) (A.ieq n26 (A.wrap .i64 (A.sub (A.rlen l23) 1))))) then
             some (.inr (PRes.val [(.bool false)]))
            else
             some (.inl [(.str s22), (.sl 4 l23), (.int .i64 n24), (.int .i64 (A.wrap .i64 (A.add n30 (A.slen s28)))), (.int .i64 (A.wrap .i64 (A.add n26 1)))])
          else
           none
         else
          bif (A.bnot (A.beq (A.ieq n27 6) (A.ieq n26 (A.wrap .i64 (A.sub (A.rlen l23) 1))))) then
           some (.inr (PRes.val [(.bool false)]))
          else
           some (.inl [(.str s22), (.sl 4 l23), (.int .i64 n24), (.int .i64 (A.wrap .i64 (A.add n30 (A.slen s28)))), (.int .i64 (A.wrap .i64 (A.add n26 1)))])
     else
      none
    else
     cutO (
      bif (A.ieq n24 (A.slen s22)) then
       some (.inl [(.bool (A.ieq n25 (A.slen s22)))])
      else
       some (.inl [(.bool false)])
     ) fun ds31 =>
     (opB (A.cell ds31 0)).bind fun b32 =>
     cutO (
      bif b32 then
       (E.call 5 []).bind fun p33 =>
       (opB (A.cell p33.leaves 0)).bind fun b35 =>
       some (.inl [(.bool b35)])
      else
       some (.inl [(.bool false)])
     ) fun ds36 =>
     (opB (A.cell ds36 0)).bind fun b37 =>
     some (.inr (PRes.val [(.bool b37)]))
   ) [(.str s_), (.sl 4 l6), (.int .i64 n7), (.int .i64 0), (.int .i64 0)]
theorem g3_eq (A : Sy) (E : Env) (s_ : ByteArray) : (funT A Tryd.prog cs 3 [V.d (.str s_)]).run E = g3 A E s_ := by kernel_rfl
def g4 (A : Sy) (E : Env) (a_ : ByteArray) (b_ : ByteArray) : Option PRes :=
 cutO (
  bif (A.ilt 300 (A.slen a_)) then
   some (.inl [(.bool true)])
  else
   some (.inl [(.bool (A.ilt 300 (A.slen b_)))])
 ) fun ds1 =>
 (opB (A.cell ds1 0)).bind fun b2 =>
 bif b2 then
  (E.call 5 []).bind fun p3 =>
  (opB (A.cell p3.leaves 0)).bind fun b5 =>
  some (PRes.val [(.bool b5)])
 else
  (E.call 6 [(.d (.str a_)), (.d (.int .i64 300))]).bind fun p6 =>
  (opL (A.cell p6.leaves 0) 4).bind fun l8 =>
  (opI (A.cell p6.leaves 1) .i64).bind fun n9 =>
  (opI (A.cell p6.leaves 2) .i64).bind fun n10 =>
  (E.call 6 [(.d (.str b_)), (.d (.int .i64 300))]).bind fun p11 =>
  (opL (A.cell p11.leaves 0) 4).bind fun l13 =>
  (opI (A.cell p11.leaves 1) .i64).bind fun n14 =>
  (opI (A.cell p11.leaves 2) .i64).bind fun n15 =>
  (E.call 7 [(.d (.int .i64 n10))]).bind fun p16 =>
  (opI (A.cell p16.leaves 0) .i64).bind fun n18 =>
  cutO (
   bif (A.bnot (A.ieq n18 0)) then
    some (.inl [(.bool true)])
   else
    (E.call 7 [(.d (.int .i64 n15))]).bind fun p19 =>
    (opI (A.cell p19.leaves 0) .i64).bind fun n21 =>
    some (.inl [(.bool (A.bnot (A.ieq n21 0)))])
  ) fun ds22 =>
  (opB (A.cell ds22 0)).bind fun b23 =>
  bif b23 then
   (E.call 5 []).bind fun p24 =>
   (opB (A.cell p24.leaves 0)).bind fun b26 =>
   some (PRes.val [(.bool b26)])
  else
   bif (A.sfit a_ (bs [10])) then
    bif (A.sfit (A.sapp a_ (bs [10])) b_) then
     (E.call 6 [(.d (.str (A.sapp (A.sapp a_ (bs [10])) b_))), (.d (.int .i64 700))]).bind fun p27 =>
     (opL (A.cell p27.leaves 0) 4).bind fun l29 =>
     (opI (A.cell p27.leaves 1) .i64).bind fun n30 =>
     (opI (A.cell p27.leaves 2) .i64).bind fun n31 =>
     (E.call 7 [(.d (.int .i64 n31))]).bind fun p32 =>
     (opI (A.cell p32.leaves 0) .i64).bind fun n34 =>
     cutO (
      bif (A.bnot (A.ieq n34 0)) then
       some (.inl [(.bool true)])
      else
       some (.inl [(.bool (A.bnot (A.ieq (A.rlen l29) (A.wrap .i64 (A.sub (A.wrap .i64 (A.add (A.rlen l8) (A.rlen l13))) 1)))))])
     ) fun ds35 =>
     (opB (A.cell ds35 0)).bind fun b36 =>
     bif b36 then
      some (PRes.val [(.bool false)])
     else
      E.lp (fun ds37 =>
       (opS (A.cell ds37 0)).bind fun s38 =>
       (opL (A.cell ds37 1) 4).bind fun l39 =>
       (opL (A.cell ds37 2) 4).bind fun l40 =>
       (opL (A.cell ds37 3) 4).bind fun l41 =>
       (opI (A.cell ds37 4) .i64).bind fun n42 =>
       bif (A.ilt n42 (A.rlen l41)) then
        bif (A.ilt n42 (A.wrap .i64 (A.sub (A.rlen l39) 1))) then
         bif (A.inr n42 (A.rlen l39)) then
          (opI (A.cell (A.row l39 n42) 0) .i64).bind fun n43 =>
          (opS (A.cell (A.row l39 n42) 1)).bind fun s44 =>
          (opI (A.cell (A.row l39 n42) 2) .i64).bind fun n45 =>
          (opI (A.cell (A.row l39 n42) 3) .i64).bind fun n46 =>
          bif (A.inr n42 (A.rlen l41)) then
           (opI (A.cell (A.row l41 n42) 0) .i64).bind fun n47 =>
           (opS (A.cell (A.row l41 n42) 1)).bind fun s48 =>
           (opI (A.cell (A.row l41 n42) 2) .i64).bind fun n49 =>
           (opI (A.cell (A.row l41 n42) 3) .i64).bind fun n50 =>
           bif (A.bnot (A.deq [(.int .i64 n47), (.str s48), (.int .i64 n49), (.int .i64 n50)] [(.int .i64 n43), (.str s44), (.int .i64 n45), (.int .i64 n46)])) then
            some (.inr (PRes.val [(.bool false)]))
           else
            some (.inl [(.str s38), (.sl 4 l39), (.sl 4 l40), (.sl 4 l41), (.int .i64 (A.wrap .i64 (A.add n42 1)))])
          else
           none
         else
          none
        else
         bif (A.inr (A.wrap .i64 (A.add (A.wrap .i64 (A.sub n42 (A.rlen l39))) 1)) (A.rlen l40)) then
          (opI (A.cell (A.row l40 (A.wrap .i64 (A.add (A.wrap .i64 (A.sub n42 (A.rlen l39))) 1))) 0) .i64).bind fun n51 =>
          (opS (A.cell (A.row l40 (A.wrap .i64 (A.add (A.wrap .i64 (A.sub n42 (A.rlen l39))) 1))) 1)).bind fun s52 =>
          (opI (A.cell (A.row l40 (A.wrap .i64 (A.add (A.wrap .i64 (A.sub n42 (A.rlen l39))) 1))) 2) .i64).bind fun n53 =>
          (opI (A.cell (A.row l40 (A.wrap .i64 (A.add (A.wrap .i64 (A.sub n42 (A.rlen l39))) 1))) 3) .i64).bind fun n54 =>
          bif (A.inr n42 (A.rlen l41)) then
           (opI (A.cell (A.row l41 n42) 0) .i64).bind fun n55 =>
           (opS (A.cell (A.row l41 n42) 1)).bind fun s56 =>
           (opI (A.cell (A.row l41 n42) 2) .i64).bind fun n57 =>
           (opI (A.cell (A.row l41 n42) 3) .i64).bind fun n58 =>
           bif (A.bnot (A.deq [(.int .i64 n55), (.str s56), (.int .i64 n57), (.int .i64 n58)] [(.int .i64 n51), (.str s52), (.int .i64 n53), (.int .i64 (A.wrap .i64 (A.add (A.wrap .i64 (A.add n54 (A.slen s38))) 1)))])) then
            some (.inr (PRes.val [(.bool false)]))
           else
            some (.inl [(.str s38), (.sl 4 l39), (.sl 4 l40), (.sl 4 l41), (.int .i64 (A.wrap .i64 (A.add n42 1)))])
          else
           none
         else
          none
       else
        (E.call 5 []).bind fun p59 =>
        (opB (A.cell p59.leaves 0)).bind fun b61 =>
        some (.inr (PRes.val [(.bool b61)]))
      ) [(.str a_), (.sl 4 l8), (.sl 4 l13), (.sl 4 l29), (.int .i64 0)]
    else
     none
   else
    none
theorem g4_eq (A : Sy) (E : Env) (a_ : ByteArray) (b_ : ByteArray) : (funT A Tryd.prog cs 4 [V.d (.str a_), V.d (.str b_)]).run E = g4 A E a_ b_ := by kernel_rfl
def g12 (A : Sy) (E : Env) (s_ : ByteArray) (prefix_ : ByteArray) : Option PRes :=
 (E.call 21 [(.d (.str s_)), (.d (.str prefix_))]).bind fun p1 =>
 (opB (A.cell p1.leaves 0)).bind fun b3 =>
 some (PRes.val [(.bool b3)])
theorem g12_eq (A : Sy) (E : Env) (s_ : ByteArray) (prefix_ : ByteArray) : (funT A Tryd.prog cs 12 [V.d (.str s_), V.d (.str prefix_)]).run E = g12 A E s_ prefix_ := by kernel_rfl
def g21 (A : Sy) (E : Env) (s_ : ByteArray) (prefix_ : ByteArray) : Option PRes :=
 bif (A.ile (A.slen prefix_) (A.slen s_)) then
  bif (A.cutok 0 (A.slen prefix_) (A.slen s_)) then
   some (PRes.val [(.bool (A.seq (A.scut s_ 0 (A.slen prefix_)) prefix_))])
  else
   none
 else
  some (PRes.val [(.bool false)])
theorem g21_eq (A : Sy) (E : Env) (s_ : ByteArray) (prefix_ : ByteArray) : (funT A Tryd.prog cs 21 [V.d (.str s_), V.d (.str prefix_)]).run E = g21 A E s_ prefix_ := by kernel_rfl
def g30 (A : Sy) (E : Env) (s_ : ByteArray) (c_ : Int) : Option PRes :=
 (E.call 41 [(.d (.str s_)), (.d (.int .u8 c_))]).bind fun p1 =>
 (opI (A.cell p1.leaves 0) .i64).bind fun n3 =>
 some (PRes.val [(.int .i64 n3)])
theorem g30_eq (A : Sy) (E : Env) (s_ : ByteArray) (c_ : Int) : (funT A Tryd.prog cs 30 [V.d (.str s_), V.d (.int .u8 c_)]).run E = g30 A E s_ c_ := by kernel_rfl
end Go.Vm
end

section
set_option maxRecDepth 1000000
set_option maxHeartbeats 0
namespace Go.Vm
open Go.Proofs
def g33 (A : Sy) (E : Env) (c_ : Int) : Option PRes :=
 cutO (
  bif (A.ile 97 c_) then
   some (.inl [(.bool (A.ile c_ 122))])
  else
   some (.inl [(.bool false)])
 ) fun ds1 =>
 (opB (A.cell ds1 0)).bind fun b2 =>
 some (PRes.val [(.bool b2)])
theorem g33_eq (A : Sy) (E : Env) (c_ : Int) : (funT A Tryd.prog cs 33 [V.d (.int .i32 c_)]).run E = g33 A E c_ := by kernel_rfl
def g32 (A : Sy) (E : Env) (c_ : Int) : Option PRes :=
 cutO (
  bif (A.ile 65 c_) then
   some (.inl [(.bool (A.ile c_ 90))])
  else
   some (.inl [(.bool false)])
 ) fun ds1 =>
 (opB (A.cell ds1 0)).bind fun b2 =>
 some (PRes.val [(.bool b2)])
theorem g32_eq (A : Sy) (E : Env) (c_ : Int) : (funT A Tryd.prog cs 32 [V.d (.int .i32 c_)]).run E = g32 A E c_ := by kernel_rfl
def g42 (A : Sy) (E : Env) (c_ : Int) : Option PRes :=
 cutO (
  bif (A.ile 48 c_) then
   some (.inl [(.bool (A.ile c_ 57))])
  else
   some (.inl [(.bool false)])
 ) fun ds1 =>
 (opB (A.cell ds1 0)).bind fun b2 =>
 some (PRes.val [(.bool b2)])
theorem g42_eq (A : Sy) (E : Env) (c_ : Int) : (funT A Tryd.prog cs 42 [V.d (.int .i32 c_)]).run E = g42 A E c_ := by kernel_rfl
def g25 (A : Sy) (E : Env) (s_ : ByteArray) : Option PRes :=
 bif (A.seq s_ (bs [110, 111, 100, 101])) then
  some (PRes.val [(.bool true)])
 else
  bif (A.seq s_ (bs [114, 101, 116, 117, 114, 110, 115])) then
   some (PRes.val [(.bool true)])
  else
   bif (A.seq s_ (bs [118, 97, 114])) then
    some (PRes.val [(.bool true)])
   else
    bif (A.seq s_ (bs [108, 101, 116])) then
     some (PRes.val [(.bool true)])
    else
     bif (A.seq s_ (bs [116, 101, 108])) then
      some (PRes.val [(.bool true)])
     else
      bif (A.seq s_ (bs [101, 110, 117, 109])) then
       some (PRes.val [(.bool true)])
      else
       bif (A.seq s_ (bs [105, 102])) then
        some (PRes.val [(.bool true)])
       else
        bif (A.seq s_ (bs [116, 104, 101, 110])) then
         some (PRes.val [(.bool true)])
        else
         bif (A.seq s_ (bs [101, 108, 115, 101])) then
          some (PRes.val [(.bool true)])
         else
          bif (A.seq s_ (bs [102, 98, 121])) then
           some (PRes.val [(.bool true)])
          else
           bif (A.seq s_ (bs [112, 114, 101])) then
            some (PRes.val [(.bool true)])
           else
            bif (A.seq s_ (bs [119, 104, 101, 110])) then
             some (PRes.val [(.bool true)])
            else
             bif (A.seq s_ (bs [109, 101, 114, 103, 101])) then
              some (PRes.val [(.bool true)])
             else
              bif (A.seq s_ (bs [101, 118, 101, 114, 121])) then
               some (PRes.val [(.bool true)])
              else
               bif (A.seq s_ (bs [110, 111, 116])) then
                some (PRes.val [(.bool true)])
               else
                bif (A.seq s_ (bs [97, 110, 100])) then
                 some (PRes.val [(.bool true)])
                else
                 bif (A.seq s_ (bs [111, 114])) then
                  some (PRes.val [(.bool true)])
                 else
                  bif (A.seq s_ (bs [120, 111, 114])) then
                   some (PRes.val [(.bool true)])
                  else
                   bif (A.seq s_ (bs [109, 111, 100])) then
                    some (PRes.val [(.bool true)])
                   else
                    bif (A.seq s_ (bs [116, 114, 117, 101])) then
                     some (PRes.val [(.bool true)])
                    else
                     bif (A.seq s_ (bs [102, 97, 108, 115, 101])) then
                      some (PRes.val [(.bool true)])
                     else
                      bif (A.seq s_ (bs [105, 110, 116])) then
                       some (PRes.val [(.bool true)])
                      else
                       bif (A.seq s_ (bs [98, 111, 111, 108])) then
                        some (PRes.val [(.bool true)])
                       else
                        bif (A.seq s_ (bs [119, 105, 116, 104])) then
                         some (PRes.val [(.bool true)])
                        else
                         some (PRes.val [(.bool false)])
theorem g25_eq (A : Sy) (E : Env) (s_ : ByteArray) : (funT A Tryd.prog cs 25 [V.d (.str s_)]).run E = g25 A E s_ := by kernel_rfl
def g31_33 (A : Sy) (E : Env)(s_ : ByteArray) : Option PRes :=
 E.lp (fun ds1 =>
  (opS (A.cell ds1 0)).bind fun s2 =>
  (opS (A.cell ds1 1)).bind fun s3 =>
  (opI (A.cell ds1 2) .i64).bind fun n4 =>
  bif (A.ilt n4 (A.slen s3)) then
   bif (A.ieq n4 0) then
    (E.call 33 [(.d (.int .i32 (A.rdec s3 n4)))]).bind fun p5 =>
    (opB (A.cell p5.leaves 0)).bind fun b7 =>
    cutO (
     bif (A.bnot b7) then
      some (.inl [(.bool true)])
     else
      (E.call 33 [(.d (.int .i32 (A.rdec s3 n4)))]).bind fun p8 =>
      (opB (A.cell p8.leaves 0)).bind fun b10 =>
      bif (A.bnot b10) then
       (E.call 32 [(.d (.int .i32 (A.rdec s3 n4)))]).bind fun p11 =>
       (opB (A.cell p11.leaves 0)).bind fun b13 =>
       bif (A.bnot b13) then
        (E.call 42 [(.d (.int .i32 (A.rdec s3 n4)))]).bind fun p14 =>
        (opB (A.cell p14.leaves 0)).bind fun b16 =>
        bif (A.bnot b16) then
         some (.inl [(.bool (A.bnot (A.ieq (A.rdec s3 n4) 95)))])
        else
         some (.inl [(.bool false)])
       else
        some (.inl [(.bool false)])
      else
       some (.inl [(.bool false)])
    ) fun ds17 =>
    (opB (A.cell ds17 0)).bind fun b18 =>
    bif b18 then
     some (.inr (PRes.val [(.bool false)]))
    else
     some (.inl [(.str s2), (.str s3), (.int .i64 (A.add n4 (A.rwid s3 n4)))])
   else
    cutO (
     (E.call 33 [(.d (.int .i32 (A.rdec s3 n4)))]).bind fun p19 =>
     (opB (A.cell p19.leaves 0)).bind fun b21 =>
     bif (A.bnot b21) then
      (E.call 32 [(.d (.int .i32 (A.rdec s3 n4)))]).bind fun p22 =>
      (opB (A.cell p22.leaves 0)).bind fun b24 =>
      bif (A.bnot b24) then
       (E.call 42 [(.d (.int .i32 (A.rdec s3 n4)))]).bind fun p25 =>
       (opB (A.cell p25.leaves 0)).bind fun b27 =>
       bif (A.bnot b27) then
        some (.inl [(.bool (A.bnot (A.ieq (A.rdec s3 n4) 95)))])
       else
        some (.inl [(.bool false)])
      else
       some (.inl [(.bool false)])
     else
      some (.inl [(.bool false)])
    ) fun ds28 =>
    (opB (A.cell ds28 0)).bind fun b29 =>
    bif b29 then
     some (.inr (PRes.val [(.bool false)]))
    else
     some (.inl [(.str s2), (.str s3), (.int .i64 (A.add n4 (A.rwid s3 n4)))])
  else
   cutO (
    bif (A.ile 1 (A.slen s2)) then
     some (.inl [(.bool (A.ile (A.slen s2) 12))])
    else
     some (.inl [(.bool false)])
   ) fun ds30 =>
   (opB (A.cell ds30 0)).bind fun b31 =>
   some (.inr (PRes.val [(.bool b31)]))
 ) [(.str s_), (.str s_), (.int .i64 0)]
theorem g31_33_eq (A : Sy) (E : Env)(s_ : ByteArray) : (funT A Tryd.prog cs 31 [V.d (.str s_), V.fn 33 []]).run E = g31_33 A E s_ := by kernel_rfl
def g31_32 (A : Sy) (E : Env)(s_ : ByteArray) : Option PRes :=
 E.lp (fun ds1 =>
  (opS (A.cell ds1 0)).bind fun s2 =>
  (opS (A.cell ds1 1)).bind fun s3 =>
  (opI (A.cell ds1 2) .i64).bind fun n4 =>
  bif (A.ilt n4 (A.slen s3)) then
   bif (A.ieq n4 0) then
    (E.call 32 [(.d (.int .i32 (A.rdec s3 n4)))]).bind fun p5 =>
    (opB (A.cell p5.leaves 0)).bind fun b7 =>
    cutO (
     bif (A.bnot b7) then
      some (.inl [(.bool true)])
     else
      (E.call 33 [(.d (.int .i32 (A.rdec s3 n4)))]).bind fun p8 =>
      (opB (A.cell p8.leaves 0)).bind fun b10 =>
      bif (A.bnot b10) then
       (E.call 32 [(.d (.int .i32 (A.rdec s3 n4)))]).bind fun p11 =>
       (opB (A.cell p11.leaves 0)).bind fun b13 =>
       bif (A.bnot b13) then
        (E.call 42 [(.d (.int .i32 (A.rdec s3 n4)))]).bind fun p14 =>
        (opB (A.cell p14.leaves 0)).bind fun b16 =>
        bif (A.bnot b16) then
         some (.inl [(.bool (A.bnot (A.ieq (A.rdec s3 n4) 95)))])
        else
         some (.inl [(.bool false)])
       else
        some (.inl [(.bool false)])
      else
       some (.inl [(.bool false)])
    ) fun ds17 =>
    (opB (A.cell ds17 0)).bind fun b18 =>
    bif b18 then
     some (.inr (PRes.val [(.bool false)]))
    else
     some (.inl [(.str s2), (.str s3), (.int .i64 (A.add n4 (A.rwid s3 n4)))])
   else
    cutO (
     (E.call 33 [(.d (.int .i32 (A.rdec s3 n4)))]).bind fun p19 =>
     (opB (A.cell p19.leaves 0)).bind fun b21 =>
     bif (A.bnot b21) then
      (E.call 32 [(.d (.int .i32 (A.rdec s3 n4)))]).bind fun p22 =>
      (opB (A.cell p22.leaves 0)).bind fun b24 =>
      bif (A.bnot b24) then
       (E.call 42 [(.d (.int .i32 (A.rdec s3 n4)))]).bind fun p25 =>
       (opB (A.cell p25.leaves 0)).bind fun b27 =>
       bif (A.bnot b27) then
        some (.inl [(.bool (A.bnot (A.ieq (A.rdec s3 n4) 95)))])
       else
        some (.inl [(.bool false)])
      else
       some (.inl [(.bool false)])
     else
      some (.inl [(.bool false)])
    ) fun ds28 =>
    (opB (A.cell ds28 0)).bind fun b29 =>
    bif b29 then
     some (.inr (PRes.val [(.bool false)]))
    else
     some (.inl [(.str s2), (.str s3), (.int .i64 (A.add n4 (A.rwid s3 n4)))])
  else
   cutO (
    bif (A.ile 1 (A.slen s2)) then
     some (.inl [(.bool (A.ile (A.slen s2) 12))])
    else
     some (.inl [(.bool false)])
   ) fun ds30 =>
   (opB (A.cell ds30 0)).bind fun b31 =>
   some (.inr (PRes.val [(.bool b31)]))
 ) [(.str s_), (.str s_), (.int .i64 0)]
theorem g31_32_eq (A : Sy) (E : Env)(s_ : ByteArray) : (funT A Tryd.prog cs 31 [V.d (.str s_), V.fn 32 []]).run E = g31_32 A E s_ := by kernel_rfl
def g24 (A : Sy) (E : Env) (s_ : ByteArray) : Option PRes :=
 (E.call 31 [(.d (.str s_)), (.fn 33 [])]).bind fun p1 =>
 (opB (A.cell p1.leaves 0)).bind fun b3 =>
 cutO (
  bif b3 then
   (E.call 25 [(.d (.str s_))]).bind fun p4 =>
   (opB (A.cell p4.leaves 0)).bind fun b6 =>
   some (.inl [(.bool (A.bnot b6))])
  else
   some (.inl [(.bool false)])
 ) fun ds7 =>
 (opB (A.cell ds7 0)).bind fun b8 =>
 some (PRes.val [(.bool b8)])
theorem g24_eq (A : Sy) (E : Env) (s_ : ByteArray) : (funT A Tryd.prog cs 24 [V.d (.str s_)]).run E = g24 A E s_ := by kernel_rfl
def g23 (A : Sy) (E : Env) (s_ : ByteArray) : Option PRes :=
 (E.call 31 [(.d (.str s_)), (.fn 32 [])]).bind fun p1 =>
 (opB (A.cell p1.leaves 0)).bind fun b3 =>
 some (PRes.val [(.bool b3)])
theorem g23_eq (A : Sy) (E : Env) (s_ : ByteArray) : (funT A Tryd.prog cs 23 [V.d (.str s_)]).run E = g23 A E s_ := by kernel_rfl
def g53 (A : Sy) (E : Env) (s_ : ByteArray) : Option PRes :=
 E.lp (fun ds1 =>
  (opS (A.cell ds1 0)).bind fun s2 =>
  (opS (A.cell ds1 1)).bind fun s3 =>
  (opI (A.cell ds1 2) .i64).bind fun n4 =>
  bif (A.ilt n4 (A.slen s3)) then
   (E.call 42 [(.d (.int .i32 (A.rdec s3 n4)))]).bind fun p5 =>
   (opB (A.cell p5.leaves 0)).bind fun b7 =>
   cutO (
    bif (A.bnot b7) then
     some (.inl [(.bool true)])
    else
     bif (A.ieq n4 0) then
      some (.inl [(.bool (A.ieq (A.rdec s3 n4) 48))])
     else
      some (.inl [(.bool false)])
   ) fun ds8 =>
   (opB (A.cell ds8 0)).bind fun b9 =>
   bif b9 then
    some (.inr (PRes.val [(.bool false)]))
   else
    some (.inl [(.str s2), (.str s3), (.int .i64 (A.add n4 (A.rwid s3 n4)))])
  else
   cutO (
    bif (A.ile 1 (A.slen s2)) then
     some (.inl [(.bool (A.ile (A.slen s2) 3))])
    else
     some (.inl [(.bool false)])
   ) fun ds10 =>
   (opB (A.cell ds10 0)).bind fun b11 =>
   some (.inr (PRes.val [(.bool b11)]))
 ) [(.str s_), (.str s_), (.int .i64 0)]
theorem g53_eq (A : Sy) (E : Env) (s_ : ByteArray) : (funT A Tryd.prog cs 53 [V.d (.str s_)]).run E = g53 A E s_ := by kernel_rfl
def g38 (A : Sy) (E : Env) (s_ : ByteArray) : Option PRes :=
 (E.call 52 [(.d (.str s_)), (.d (.str (bs [46])))]).bind fun p1 =>
 (opS (A.cell p1.leaves 0)).bind fun s3 =>
 (opS (A.cell p1.leaves 1)).bind fun s4 =>
 (opB (A.cell p1.leaves 2)).bind fun b5 =>
 (E.call 24 [(.d (.str s3))]).bind fun p6 =>
 (opB (A.cell p6.leaves 0)).bind fun b8 =>
 cutO (
  bif b8 then
   bif (A.bnot b5) then
    some (.inl [(.bool true)])
   else
    (E.call 53 [(.d (.str s4))]).bind fun p9 =>
    (opB (A.cell p9.leaves 0)).bind fun b11 =>
    some (.inl [(.bool b11)])
  else
   some (.inl [(.bool false)])
 ) fun ds12 =>
 (opB (A.cell ds12 0)).bind fun b13 =>
 some (PRes.val [(.bool b13)])
theorem g38_eq (A : Sy) (E : Env) (s_ : ByteArray) : (funT A Tryd.prog cs 38 [V.d (.str s_)]).run E = g38 A E s_ := by kernel_rfl
def g28 (A : Sy) (E : Env) (s_ : ByteArray) : Option PRes :=
 (E.call 37 [(.d (.str s_)), (.d (.str (bs [47])))]).bind fun p1 =>
 (opL (A.cell p1.leaves 0) 1).bind fun l3 =>
 E.lp (fun ds4 =>
  (opL (A.cell ds4 0) 1).bind fun l5 =>
  (opI (A.cell ds4 1) .i64).bind fun n6 =>
  (opI (A.cell ds4 2) .i64).bind fun n7 =>
  bif (A.ilt n7 n6) then
   bif (A.inr n7 (A.rlen l5)) then
    (opS (A.cell (A.row l5 n7) 0)).bind fun s8 =>
    (E.call 38 [(.d (.str s8))]).bind fun p9 =>
    (opB (A.cell p9.leaves 0)).bind fun b11 =>
    bif (A.bnot b11) then
     some (.inr (PRes.val [(.bool false)]))
    else
     some (.inl [(.sl 1 l5), (.int .i64 n6), (.int .i64 (A.wrap .i64 (A.add n7 1)))])
   else
    none
  else
   some (.inr (PRes.val [(.bool true)]))
 ) [(.sl 1 l3), (.int .i64 (A.rlen l3)), (.int .i64 0)]
theorem g28_eq (A : Sy) (E : Env) (s_ : ByteArray) : (funT A Tryd.prog cs 28 [V.d (.str s_)]).run E = g28 A E s_ := by kernel_rfl
def g52 (A : Sy) (E : Env) (s_ : ByteArray) (sep_ : ByteArray) : Option PRes :=
 (E.call 64 [(.d (.str s_)), (.d (.str sep_))]).bind fun p1 =>
 (opS (A.cell p1.leaves 0)).bind fun s3 =>
 (opS (A.cell p1.leaves 1)).bind fun s4 =>
 (opB (A.cell p1.leaves 2)).bind fun b5 =>
 some (PRes.val [(.str s3), (.str s4), (.bool b5)])
theorem g52_eq (A : Sy) (E : Env) (s_ : ByteArray) (sep_ : ByteArray) : (funT A Tryd.prog cs 52 [V.d (.str s_), V.d (.str sep_)]).run E = g52 A E s_ sep_ := by kernel_rfl
def g64 (A : Sy) (E : Env) (s_ : ByteArray) (sep_ : ByteArray) : Option PRes :=
 (E.call 36 [(.d (.str s_)), (.d (.str sep_))]).bind fun p1 =>
 (opI (A.cell p1.leaves 0) .i64).bind fun n3 =>
 bif (A.ile 0 n3) then
  bif (A.cutok 0 n3 (A.slen s_)) then
   bif (A.cutok (A.wrap .i64 (A.add n3 (A.slen sep_))) (A.slen s_) (A.slen s_)) then
    some (PRes.val [(.str (A.scut s_ 0 n3)), (.str (A.scut s_ (A.wrap .i64 (A.add n3 (A.slen sep_))) (A.slen s_))), (.bool true)])
   else
    none
  else
   none
 else
  some (PRes.val [(.str s_), (.str (bs [])), (.bool false)])
theorem g64_eq (A : Sy) (E : Env) (s_ : ByteArray) (sep_ : ByteArray) : (funT A Tryd.prog cs 64 [V.d (.str s_), V.d (.str sep_)]).run E = g64 A E s_ sep_ := by kernel_rfl
def g27 (A : Sy) (E : Env) (s_ : ByteArray) (substr_ : ByteArray) : Option PRes :=
 (E.call 36 [(.d (.str s_)), (.d (.str substr_))]).bind fun p1 =>
 (opI (A.cell p1.leaves 0) .i64).bind fun n3 =>
 some (PRes.val [(.int .i64 n3)])
theorem g27_eq (A : Sy) (E : Env) (s_ : ByteArray) (substr_ : ByteArray) : (funT A Tryd.prog cs 27 [V.d (.str s_), V.d (.str substr_)]).run E = g27 A E s_ substr_ := by kernel_rfl
def g36 (A : Sy) (E : Env) (s_ : ByteArray) (substr_ : ByteArray) : Option PRes :=
 cutO (
  bif (A.ieq (A.slen substr_) 0) then
   some (.inl [(.bool true)])
  else
   some (.inl [(.bool (A.seq substr_ s_))])
 ) fun ds1 =>
 (opB (A.cell ds1 0)).bind fun b2 =>
 bif b2 then
  some (PRes.val [(.int .i64 0)])
 else
  bif (A.ieq (A.slen substr_) 1) then
   bif (A.inr 0 (A.slen substr_)) then
    (E.call 41 [(.d (.str s_)), (.d (.int .u8 (A.sbyte substr_ 0)))]).bind fun p3 =>
    (opI (A.cell p3.leaves 0) .i64).bind fun n5 =>
    some (PRes.val [(.int .i64 n5)])
   else
    none
  else
   bif (A.ile (A.slen s_) (A.slen substr_)) then
    some (PRes.val [(.int .i64 (-1))])
   else
    none
theorem g36_eq (A : Sy) (E : Env) (s_ : ByteArray) (substr_ : ByteArray) : (funT A Tryd.prog cs 36 [V.d (.str s_), V.d (.str substr_)]).run E = g36 A E s_ substr_ := by kernel_rfl
def g41 (A : Sy) (E : Env) (s_ : ByteArray) (c_ : Int) : Option PRes :=
 some (PRes.val [(.int .i64 (A.sidx s_ c_))])
theorem g41_eq (A : Sy) (E : Env) (s_ : ByteArray) (c_ : Int) : (funT A Tryd.prog cs 41 [V.d (.str s_), V.d (.int .u8 c_)]).run E = g41 A E s_ c_ := by kernel_rfl
def g63 (A : Sy) (E : Env) (s_ : ByteArray) (substr_ : ByteArray) : Option PRes :=
 bif (A.ieq (A.slen substr_) 0) then
  (E.call 68 [(.d (.str s_))]).bind fun p1 =>
  (opI (A.cell p1.leaves 0) .i64).bind fun n3 =>
  some (PRes.val [(.int .i64 (A.wrap .i64 (A.add n3 1)))])
 else
  bif (A.ieq (A.slen substr_) 1) then
   bif (A.inr 0 (A.slen substr_)) then
    some (PRes.val [(.int .i64 (A.scnt s_ (A.sbyte substr_ 0)))])
   else
    none
  else
   E.lp (fun ds4 =>
    (opS (A.cell ds4 0)).bind fun s5 =>
    (opS (A.cell ds4 1)).bind fun s6 =>
    (opI (A.cell ds4 2) .i64).bind fun n7 =>
    (E.call 27 [(.d (.str s5)), (.d (.str s6))]).bind fun p8 =>
    (opI (A.cell p8.leaves 0) .i64).bind fun n10 =>
    bif (A.ieq n10 (-1)) then
     some (.inr (PRes.val [(.int .i64 n7)]))
    else
     bif (A.cutok (A.wrap .i64 (A.add n10 (A.slen s6))) (A.slen s5) (A.slen s5)) then
      some (.inl [(.str (A.scut s5 (A.wrap .i64 (A.add n10 (A.slen s6))) (A.slen s5))), (.str s6), (.int .i64 (A.wrap .i64 (A.add n7 1)))])
     else
      none
   ) [(.str s_), (.str substr_), (.int .i64 0)]
theorem g63_eq (A : Sy) (E : Env) (s_ : ByteArray) (substr_ : ByteArray) : (funT A Tryd.prog cs 63 [V.d (.str s_), V.d (.str substr_)]).run E = g63 A E s_ substr_ := by kernel_rfl
def g37 (A : Sy) (E : Env) (s_ : ByteArray) (sep_ : ByteArray) : Option PRes :=
 (E.call 51 [(.d (.str s_)), (.d (.str sep_)), (.d (.int .i64 0)), (.d (.int .i64 (-1)))]).bind fun p1 =>
 (opL (A.cell p1.leaves 0) 1).bind fun l3 =>
 some (PRes.val [(.sl 1 l3)])
theorem g37_eq (A : Sy) (E : Env) (s_ : ByteArray) (sep_ : ByteArray) : (funT A Tryd.prog cs 37 [V.d (.str s_), V.d (.str sep_)]).run E = g37 A E s_ sep_ := by kernel_rfl
def g51 (A : Sy) (E : Env) (s_ : ByteArray) (sep_ : ByteArray) (sepSave_ : Int) (n_ : Int) : Option PRes :=
 bif (A.ieq n_ 0) then
  some (PRes.own 9 1 [])
 else
  bif (A.seq sep_ (bs [])) then
   (E.call 62 [(.d (.str s_)), (.d (.int .i64 n_))]).bind fun p1 =>
   (opL (A.cell p1.leaves 0) 1).bind fun l3 =>
   some (PRes.val [(.sl 1 l3)])
  else
   bif (A.ilt n_ 0) then
    (E.call 63 [(.d (.str s_)), (.d (.str sep_))]).bind fun p4 =>
    (opI (A.cell p4.leaves 0) .i64).bind fun n6 =>
    bif (A.mkok (A.imin (A.wrap .i64 (A.add n6 1)) (A.wrap .i64 (A.add (A.slen s_) 1))) (A.imin (A.wrap .i64 (A.add n6 1)) (A.wrap .i64 (A.add (A.slen s_) 1))) 16) then
     E.lp (fun ds7 =>
      (opS (A.cell ds7 0)).bind fun s8 =>
      (opS (A.cell ds7 1)).bind fun s9 =>
      (opI (A.cell ds7 2) .i64).bind fun n10 =>
      (opI (A.cell ds7 3) .i64).bind fun n11 =>
      (opI (A.cell ds7 4) .i64).bind fun n12 =>
      (opL (A.cell ds7 5) 1).bind fun l13 =>
      bif (A.ilt n12 n11) then
       (E.call 27 [(.d (.str s8)), (.d (.str s9))]).bind fun p14 =>
       (opI (A.cell p14.leaves 0) .i64).bind fun n16 =>
       bif (A.ilt n16 0) then
        bif (A.inr n12 (A.rlen l13)) then
         bif (A.inrn (A.nat n12) l13) then
          bif (A.cutok 0 (A.wrap .i64 (A.add n12 1)) (A.rlen (A.rput l13 (A.nat n12) 0 [(.str s8)]))) then
           some (.inr (PRes.own 9 1 (A.head (A.rput l13 (A.nat n12) 0 [(.str s8)]) (A.wrap .i64 (A.add n12 1)))))
          else
           none
         else
          none
        else
         none
       else
        bif (A.cutok 0 (A.wrap .i64 (A.add n16 n10)) (A.slen s8)) then
         bif (A.inr n12 (A.rlen l13)) then
          bif (A.inrn (A.nat n12) l13) then
           bif (A.cutok (A.wrap .i64 (A.add n16 (A.slen s9))) (A.slen s8) (A.slen s8)) then
            some (.inl [(.str (A.scut s8 (A.wrap .i64 (A.add n16 (A.slen s9))) (A.slen s8))), (.str s9), (.int .i64 n10), (.int .i64 n11), (.int .i64 (A.wrap .i64 (A.add n12 1))), (.sl 1 (A.rput l13 (A.nat n12) 0 [(.str (A.scut s8 0 (A.wrap .i64 (A.add n16 n10))))]))])
           else
            none
          else
           none
         else
          none
        else
         none
      else
       bif (A.inr n12 (A.rlen l13)) then
        bif (A.inrn (A.nat n12) l13) then
         bif (A.cutok 0 (A.wrap .i64 (A.add n12 1)) (A.rlen (A.rput l13 (A.nat n12) 0 [(.str s8)]))) then
          some (.inr (PRes.own 9 1 (A.head (A.rput l13 (A.nat n12) 0 [(.str s8)]) (A.wrap .i64 (A.add n12 1)))))
         else
          none
        else
         none
       else
        none
     ) [(.str s_), (.str sep_), (.int .i64 sepSave_), (.int .i64 (A.wrap .i64 (A.sub (A.imin (A.wrap .i64 (A.add n6 1)) (A.wrap .i64 (A.add (A.slen s_) 1))) 1))), (.int .i64 0), (.sl 1 (A.rep (A.imin (A.wrap .i64 (A.add n6 1)) (A.wrap .i64 (A.add (A.slen s_) 1))) [(.str (bs []))]))]
    else
     none
   else
    bif (A.mkok (A.imin n_ (A.wrap .i64 (A.add (A.slen s_) 1))) (A.imin n_ (A.wrap .i64 (A.add (A.slen s_) 1))) 16) then
     E.lp (fun ds17 =>
      (opS (A.cell ds17 0)).bind fun s18 =>
      (opS (A.cell ds17 1)).bind fun s19 =>
      (opI (A.cell ds17 2) .i64).bind fun n20 =>
      (opI (A.cell ds17 3) .i64).bind fun n21 =>
      (opI (A.cell ds17 4) .i64).bind fun n22 =>
      (opL (A.cell ds17 5) 1).bind fun l23 =>
      bif (A.ilt n22 n21) then
       (E.call 27 [(.d (.str s18)), (.d (.str s19))]).bind fun p24 =>
       (opI (A.cell p24.leaves 0) .i64).bind fun n26 =>
       bif (A.ilt n26 0) then
        bif (A.inr n22 (A.rlen l23)) then
         bif (A.inrn (A.nat n22) l23) then
          bif (A.cutok 0 (A.wrap .i64 (A.add n22 1)) (A.rlen (A.rput l23 (A.nat n22) 0 [(.str s18)]))) then
           some (.inr (PRes.own 9 1 (A.head (A.rput l23 (A.nat n22) 0 [(.str s18)]) (A.wrap .i64 (A.add n22 1)))))
          else
           none
         else
          none
        else
         none
       else
        bif (A.cutok 0 (A.wrap .i64 (A.add n26 n20)) (A.slen s18)) then
         bif (A.inr n22 (A.rlen l23)) then
          bif (A.inrn (A.nat n22) l23) then
           bif (A.cutok (A.wrap .i64 (A.add n26 (A.slen s19))) (A.slen s18) (A.slen s18)) then
            some (.inl [(.str (A.scut s18 (A.wrap .i64 (A.add n26 (A.slen s19))) (A.slen s18))), (.str s19), (.int .i64 n20), (.int .i64 n21), (.int .i64 (A.wrap .i64 (A.add n22 1))), (.sl 1 (A.rput l23 (A.nat n22) 0 [(.str (A.scut s18 0 (A.wrap .i64 (A.add n26 n20))))]))])
           else
            none
          else
           none
         else
          none
        else
         none
      else
       bif (A.inr n22 (A.rlen l23)) then
        bif (A.inrn (A.nat n22) l23) then
         bif (A.cutok 0 (A.wrap .i64 (A.add n22 1)) (A.rlen (A.rput l23 (A.nat n22) 0 [(.str s18)]))) then
          some (.inr (PRes.own 9 1 (A.head (A.rput l23 (A.nat n22) 0 [(.str s18)]) (A.wrap .i64 (A.add n22 1)))))
         else
          none
        else
         none
       else
        none
     ) [(.str s_), (.str sep_), (.int .i64 sepSave_), (.int .i64 (A.wrap .i64 (A.sub (A.imin n_ (A.wrap .i64 (A.add (A.slen s_) 1))) 1))), (.int .i64 0), (.sl 1 (A.rep (A.imin n_ (A.wrap .i64 (A.add (A.slen s_) 1))) [(.str (bs []))]))]
    else
     none
theorem g51_eq (A : Sy) (E : Env) (s_ : ByteArray) (sep_ : ByteArray) (sepSave_ : Int) (n_ : Int) : (funT A Tryd.prog cs 51 [V.d (.str s_), V.d (.str sep_), V.d (.int .i64 sepSave_), V.d (.int .i64 n_)]).run E = g51 A E s_ sep_ sepSave_ n_ := by kernel_rfl
end Go.Vm
end
