/- A part of the proof: contracts of functions that the statement reaches. -/
import Derived.Test.YthpkalnjbhnfpaaGreatLF
import Derived.KernelRfl
import Derived.Eval
import Derived.Test.YthpkalnjbhnfpaaGreatChecked
set_option linter.unusedSimpArgs false
set_option linter.unusedVariables false
set_option linter.unnecessarySimpa false
set_option maxRecDepth 100000
set_option maxHeartbeats 2000000
section
namespace Go.Abs
open Go.Proofs
theorem hm:Tryz.prog.follows .mixedOrders=true:=Tryz.checked.mixed
def shL:List (Nat×List Bool):= [(22,[true,true]),(23,[true,true]),(24,[true,true,true,true,true]),(25,[true,true,true,true,true]),(34,[true,true,true]),(35,[true,true,true]),(40,[true,true,true,true]),(41,[true,true,true,true,true,true,true,true,true,true,true,false,true,true,false,true,true,true,true,false,true,true,true,true]),(42,[true,true,true,true,true,true,true,true,true,true,true,false,true,true,false,true,true,true,true,false,true,true,true,true]),(55,[true,true,true,true,true,true,true]),(56,[true,true,true,true,true,true,true]),(101,[true,true,true,true]),(102,[true,true,true,true]),(108,[true,true,true,true]),(109,[true,true,true,true]),(160,[true,true,true,true,true,true]),(161,[true,true,true,true,true,true]),(177,[true,true,true,true,true]),(178,[true,true,true,true,true]),(190,[true,true,true,true,true]),(191,[true,true,true,true,true]),(276,[true,true,true,true]),(277,[true,true,true,true]),(335,[true,true]),(336,[true,true]),(337,[true,true]),(368,[true,true]),(369,[true,true]),(400,[true,true,true,true]),(401,[true,true,true,true]),(404,[true,true,true,true,true,true]),(405,[true,true,true,true,true,true]),(407,[true,true,true,true,true]),(408,[true,true,true,true,true]),(477,[true,true,true]),(478,[true,true,true]),(484,[true,true,true,true]),(485,[true,true,true,true]),(489,[true,true,true,true,true]),(490,[true,true,true,true,true])]
theorem A1:okE Tryz.prog shL=true:=by kernel_rfl
abbrev B1a:Nat:=3
abbrev B7s:Nat:=5
abbrev C78:Nat:=6
abbrev C5s:Nat:=7
abbrev C77:Nat:=8
abbrev B06:Nat:=9
abbrev C4p:Nat:=10
abbrev A9w:Nat:=11
abbrev B8b:Nat:=12
abbrev C39:Nat:=13
abbrev D4q:Nat:=14
abbrev B2l:Nat:=15
abbrev B0a:Nat:=16
abbrev C1t:Nat:=20
abbrev C91:Nat:=21
abbrev D3m:Nat:=22
abbrev B3j:Nat:=23
abbrev E0h:Nat:=24
abbrev C1x:Nat:=25
abbrev C2a:Nat:=26
abbrev B8l:Nat:=27
abbrev C3r:Nat:=30
abbrev B7l:Nat:=31
abbrev B0h:Nat:=32
abbrev B6w:Nat:=35
abbrev B4e:Nat:=36
abbrev B5c:Nat:=37
abbrev B71:Nat:=38
abbrev C9e:Nat:=39
abbrev C4s:Nat:=40
abbrev D6x:Nat:=41
abbrev D3e:Nat:=42
abbrev D4l:Nat:=43
abbrev C4t:Nat:=47
abbrev C7x:Nat:=48
abbrev C6t:Nat:=49
abbrev C4u:Nat:=50
abbrev C7b:Nat:=51
abbrev D6b:Nat:=52
abbrev C6d:Nat:=53
abbrev C61:Nat:=54
abbrev C15:Nat:=55
abbrev B11:Nat:=56
abbrev D66:Nat:=57
abbrev B79:Nat:=58
abbrev B8j:Nat:=59
abbrev B4t:Nat:=60
abbrev B8n:Nat:=61
abbrev B7a:Nat:=62
abbrev B3x:Nat:=63
abbrev B3e:Nat:=64
abbrev D14:Nat:=65
abbrev C26:Nat:=66
abbrev B87:Nat:=67
abbrev B93:Nat:=68
abbrev A5h:Nat:=69
abbrev B4y:Nat:=70
abbrev A6r:Nat:=71
abbrev C5p:Nat:=72
abbrev C7l:Nat:=73
abbrev C2v:Nat:=74
abbrev C52:Nat:=75
abbrev C3x:Nat:=76
abbrev B83:Nat:=77
abbrev B8g:Nat:=78
abbrev B5u:Nat:=79
abbrev B8m:Nat:=80
abbrev B98:Nat:=81
abbrev B52:Nat:=90
abbrev C81:Nat:=104
abbrev B4r:Nat:=105
abbrev C1o:Nat:=106
abbrev C87:Nat:=107
abbrev D0y:Nat:=108
abbrev D67:Nat:=109
abbrev D05:Nat:=110
abbrev C5r:Nat:=111
abbrev C5w:Nat:=112
abbrev C3d:Nat:=113
abbrev B74:Nat:=114
abbrev C3v:Nat:=115
abbrev B5d:Nat:=116
abbrev B3n:Nat:=117
abbrev A8r:Nat:=118
abbrev B2o:Nat:=119
abbrev A5m:Nat:=120
abbrev B41:Nat:=121
abbrev C9n:Nat:=122
abbrev A9m:Nat:=123
abbrev C4v:Nat:=124
abbrev A7b:Nat:=125
abbrev C7d:Nat:=126
abbrev D3p:Nat:=127
abbrev B1t:Nat:=128
abbrev B3a:Nat:=129
abbrev A7i:Nat:=130
abbrev C17:Nat:=131
abbrev B6c:Nat:=132
abbrev C4c:Nat:=133
abbrev C9b:Nat:=134
abbrev D5x:Nat:=135
abbrev C0v:Nat:=136
abbrev B9u:Nat:=137
abbrev D0i:Nat:=138
abbrev C5i:Nat:=139
abbrev C1r:Nat:=140
abbrev D7c:Nat:=141
abbrev C0i:Nat:=142
abbrev B8i:Nat:=143
abbrev B81:Nat:=144
abbrev B5e:Nat:=145
abbrev C5l:Nat:=146
abbrev Z3:Nat:=147
abbrev C28:Nat:=148
abbrev C9y:Nat:=149
abbrev B7b:Nat:=150
abbrev B05:Nat:=151
abbrev A7d:Nat:=152
abbrev A98:Nat:=153
abbrev A7p:Nat:=154
abbrev A94:Nat:=155
abbrev C12:Nat:=156
abbrev B47:Nat:=157
abbrev C3k:Nat:=158
abbrev C1y:Nat:=159
abbrev C49:Nat:=160
abbrev D4n:Nat:=161
abbrev C1z:Nat:=176
abbrev C86:Nat:=182
abbrev B3u:Nat:=186
abbrev C4n:Nat:=190
abbrev E05:Nat:=206
abbrev D4b:Nat:=207
abbrev C7c:Nat:=208
abbrev C6x:Nat:=209
abbrev C1w:Nat:=210
abbrev C58:Nat:=211
abbrev D3d:Nat:=212
abbrev C7e:Nat:=213
abbrev B4i:Nat:=214
abbrev C10:Nat:=215
abbrev B39:Nat:=216
abbrev B7z:Nat:=217
abbrev B6l:Nat:=218
abbrev B2s:Nat:=219
abbrev A8u:Nat:=220
abbrev C19:Nat:=221
abbrev A6e:Nat:=222
abbrev A5e:Nat:=223
abbrev B9o:Nat:=224
abbrev C1n:Nat:=225
abbrev A4u:Nat:=226
abbrev A7h:Nat:=227
abbrev C0s:Nat:=228
abbrev B94:Nat:=229
abbrev B51:Nat:=230
abbrev B4o:Nat:=231
abbrev B5f:Nat:=232
abbrev D23:Nat:=233
abbrev D17:Nat:=236
abbrev C1q:Nat:=237
abbrev C4e:Nat:=239
abbrev C2b:Nat:=240
abbrev C9o:Nat:=241
abbrev B30:Nat:=242
abbrev D4j:Nat:=243
abbrev B7c:Nat:=244
abbrev C4f:Nat:=245
abbrev B2n:Nat:=246
abbrev C45:Nat:=247
abbrev C25:Nat:=248
abbrev C46:Nat:=249
abbrev D0n:Nat:=250
abbrev D0k:Nat:=251
abbrev D4h:Nat:=252
abbrev B68:Nat:=253
abbrev A5b:Nat:=254
abbrev B0e:Nat:=255
abbrev A73:Nat:=256
abbrev C1m:Nat:=257
abbrev B8h:Nat:=258
abbrev B91:Nat:=259
abbrev B0i:Nat:=260
abbrev C5j:Nat:=261
abbrev B5r:Nat:=267
abbrev D7o:Nat:=273
abbrev A7r:Nat:=274
abbrev D1e:Nat:=282
abbrev D3r:Nat:=283
abbrev B9w:Nat:=284
abbrev D3x:Nat:=293
abbrev C6c:Nat:=301
abbrev B4w:Nat:=302
abbrev C9r:Nat:=304
abbrev D4a:Nat:=305
abbrev B03:Nat:=309
abbrev C9x:Nat:=318
abbrev C0u:Nat:=319
abbrev D3b:Nat:=320
abbrev D8m:Nat:=321
abbrev C7h:Nat:=322
abbrev B96:Nat:=323
abbrev D52:Nat:=324
abbrev C7t:Nat:=325
abbrev C3e:Nat:=326
abbrev C7w:Nat:=327
abbrev C9g:Nat:=328
abbrev C9s:Nat:=329
abbrev C0c:Nat:=330
abbrev C4w:Nat:=331
abbrev B56:Nat:=332
abbrev A7u:Nat:=333
abbrev B8u:Nat:=334
abbrev C33:Nat:=335
abbrev D1h:Nat:=336
abbrev C9z:Nat:=337
abbrev C23:Nat:=338
abbrev D3i:Nat:=339
abbrev B9x:Nat:=358
abbrev B1g:Nat:=359
abbrev A8s:Nat:=360
abbrev B8v:Nat:=361
abbrev C03:Nat:=362
abbrev B3f:Nat:=363
abbrev C7y:Nat:=364
abbrev B9l:Nat:=365
abbrev B3i:Nat:=366
abbrev B31:Nat:=367
abbrev C9q:Nat:=368
abbrev B73:Nat:=369
abbrev D16:Nat:=370
abbrev C63:Nat:=387
abbrev C38:Nat:=389
abbrev C0k:Nat:=412
abbrev B9a:Nat:=413
abbrev C2c:Nat:=414
abbrev D4e:Nat:=415
abbrev D4k:Nat:=416
abbrev D9o:Nat:=421
abbrev C9k:Nat:=422
abbrev C18:Nat:=423
abbrev D4r:Nat:=424
abbrev C7a:Nat:=425
abbrev D63:Nat:=426
abbrev B4b:Nat:=435
abbrev B50:Nat:=436
abbrev C9i:Nat:=437
abbrev B9t:Nat:=438
abbrev B8a:Nat:=460
abbrev B5p:Nat:=461
abbrev B67:Nat:=462
abbrev A7y:Nat:=463
abbrev A7n:Nat:=464
abbrev D4v:Nat:=465
abbrev C1p:Nat:=470
abbrev C0a:Nat:=485
abbrev A9n:Nat:=486
end Go.Abs
end
section
namespace Go.Abs
open Go.Proofs
open Api
theorem B9d(l:List Vec)(hl:l.length≤1048576):A5 Tryz.prog C0s [B4 2 Vec.enc default l] [] (.sl 1 0 l.length l.length) [(1, .arr 2 (D2 Vec.enc default l))]:=by
 by_cases hn:l= []
 ·subst hn;refine A5.nil_split (g:=O6 Vec.enc default ([]:List Vec)) [] [] ?_ (fun a c=> ?_)
  ·refine R8 hm A1 Tryz.func228 rfl rfl ?_;simp only[go_sem];refine E3 [.adopt] [] [1] rfl rfl (by simp) (by simp) (by simp) ?_;simp only[go_sem]
  ·refine R8 hm A1 Tryz.func228 rfl rfl ?_;simp only[go_sem];refine⟨by simp[maxLen],?_⟩;refine E3 [.share] [(1,96)] [] rfl rfl (by simp) (by simp) (by simp) ?_;simp only[go_sem];exact⟨rfl,rfl,fun i hi=>absurd hi (by simp)⟩
 ·have hpos:0<l.length:=List.length_pos_iff.2 hn
  refine R8 hm A1 Tryz.func228 rfl rfl ?_;simp only[go_sem];refine⟨hpos,⟨by omega,by simp only[maxLen];omega⟩,?_⟩;refine E3 [.share] [(1,96)] [] rfl rfl (by simp) (by simp) (by simp) ?_;simp only[go_sem]
theorem A9r(l:List C4)(hl:l.length≤1048576):A5 Tryz.prog A9m [B4 6 C4.enc default l] [] (.sl 1 0 l.length l.length) [(1, .arr 6 (D2 C4.enc default l))]:=by
 by_cases hn:l= []
 ·subst hn;refine A5.nil_split (g:=O6 C4.enc default ([]:List C4)) [] [] ?_ (fun a c=> ?_)
  ·refine R8 hm A1 Tryz.func123 rfl rfl ?_;simp only[go_sem];refine E3 [.adopt] [] [1] rfl rfl (by simp) (by simp) (by simp) ?_;simp only[go_sem]
  ·refine R8 hm A1 Tryz.func123 rfl rfl ?_;simp only[go_sem];refine⟨by simp[maxLen],?_⟩;refine E3 [.share] [(1,96)] [] rfl rfl (by simp) (by simp) (by simp) ?_;simp only[go_sem];exact⟨rfl,rfl,fun i hi=>absurd hi (by simp)⟩
 ·have hpos:0<l.length:=List.length_pos_iff.2 hn
  refine R8 hm A1 Tryz.func123 rfl rfl ?_;simp only[go_sem];refine⟨hpos,⟨by omega,by simp only[maxLen];omega⟩,?_⟩;refine E3 [.share] [(1,96)] [] rfl rfl (by simp) (by simp) (by simp) ?_;simp only[go_sem]
theorem A8t(l:List Body)(hl:l.length≤1048576):A5 Tryz.prog B8n [B4 20 Body.enc default l] [] (.sl 1 0 l.length l.length) [(1, .arr 20 (D2 Body.enc default l))]:=by
 by_cases hn:l= []
 ·subst hn;refine A5.nil_split (g:=O6 Body.enc default ([]:List Body)) [] [] ?_ (fun a c=> ?_)
  ·refine R8 hm A1 Tryz.func61 rfl rfl ?_;simp only[go_sem];refine E3 [.adopt] [] [1] rfl rfl (by simp) (by simp) (by simp) ?_;simp only[go_sem]
  ·refine R8 hm A1 Tryz.func61 rfl rfl ?_;simp only[go_sem];refine⟨by simp[maxLen],?_⟩;refine E3 [.share] [(1,96)] [] rfl rfl (by simp) (by simp) (by simp) ?_;simp only[go_sem];exact⟨rfl,rfl,fun i hi=>absurd hi (by simp)⟩
 ·have hpos:0<l.length:=List.length_pos_iff.2 hn
  refine R8 hm A1 Tryz.func61 rfl rfl ?_;simp only[go_sem];refine⟨hpos,⟨by omega,by simp only[maxLen];omega⟩,?_⟩;refine E3 [.share] [(1,96)] [] rfl rfl (by simp) (by simp) (by simp) ?_;simp only[go_sem]
theorem A8k(l:List Joint)(hl:l.length≤1048576):A5 Tryz.prog B7a [B4 24 Joint.enc default l] [] (.sl 1 0 l.length l.length) [(1, .arr 24 (D2 Joint.enc default l))]:=by
 by_cases hn:l= []
 ·subst hn;refine A5.nil_split (g:=O6 Joint.enc default ([]:List Joint)) [] [] ?_ (fun a c=> ?_)
  ·refine R8 hm A1 Tryz.func62 rfl rfl ?_;simp only[go_sem];refine E3 [.adopt] [] [1] rfl rfl (by simp) (by simp) (by simp) ?_;simp only[go_sem]
  ·refine R8 hm A1 Tryz.func62 rfl rfl ?_;simp only[go_sem];refine⟨by simp[maxLen],?_⟩;refine E3 [.share] [(1,96)] [] rfl rfl (by simp) (by simp) (by simp) ?_;simp only[go_sem];exact⟨rfl,rfl,fun i hi=>absurd hi (by simp)⟩
 ·have hpos:0<l.length:=List.length_pos_iff.2 hn
  refine R8 hm A1 Tryz.func62 rfl rfl ?_;simp only[go_sem];refine⟨hpos,⟨by omega,by simp only[maxLen];omega⟩,?_⟩;refine E3 [.share] [(1,96)] [] rfl rfl (by simp) (by simp) (by simp) ?_;simp only[go_sem]
theorem A6j(l:List D5)(hl:l.length≤1048576):A5 Tryz.prog B3x [B4 7 D5.enc default l] [] (.sl 1 0 l.length l.length) [(1, .arr 7 (D2 D5.enc default l))]:=by
 by_cases hn:l= []
 ·subst hn;refine A5.nil_split (g:=O6 D5.enc default ([]:List D5)) [] [] ?_ (fun a c=> ?_)
  ·refine R8 hm A1 Tryz.func63 rfl rfl ?_;simp only[go_sem];refine E3 [.adopt] [] [1] rfl rfl (by simp) (by simp) (by simp) ?_;simp only[go_sem]
  ·refine R8 hm A1 Tryz.func63 rfl rfl ?_;simp only[go_sem];refine⟨by simp[maxLen],?_⟩;refine E3 [.share] [(1,96)] [] rfl rfl (by simp) (by simp) (by simp) ?_;simp only[go_sem];exact⟨rfl,rfl,fun i hi=>absurd hi (by simp)⟩
 ·have hpos:0<l.length:=List.length_pos_iff.2 hn
  refine R8 hm A1 Tryz.func63 rfl rfl ?_;simp only[go_sem];refine⟨hpos,⟨by omega,by simp only[maxLen];omega⟩,?_⟩;refine E3 [.share] [(1,96)] [] rfl rfl (by simp) (by simp) (by simp) ?_;simp only[go_sem]
theorem A6k(l:List B2)(hl:l.length≤1048576):A5 Tryz.prog B3e [B4 4 B2.enc default l] [] (.sl 1 0 l.length l.length) [(1, .arr 4 (D2 B2.enc default l))]:=by
 by_cases hn:l= []
 ·subst hn;refine A5.nil_split (g:=O6 B2.enc default ([]:List B2)) [] [] ?_ (fun a c=> ?_)
  ·refine R8 hm A1 Tryz.func64 rfl rfl ?_;simp only[go_sem];refine E3 [.adopt] [] [1] rfl rfl (by simp) (by simp) (by simp) ?_;simp only[go_sem]
  ·refine R8 hm A1 Tryz.func64 rfl rfl ?_;simp only[go_sem];refine⟨by simp[maxLen],?_⟩;refine E3 [.share] [(1,96)] [] rfl rfl (by simp) (by simp) (by simp) ?_;simp only[go_sem];exact⟨rfl,rfl,fun i hi=>absurd hi (by simp)⟩
 ·have hpos:0<l.length:=List.length_pos_iff.2 hn
  refine R8 hm A1 Tryz.func64 rfl rfl ?_;simp only[go_sem];refine⟨hpos,⟨by omega,by simp only[maxLen];omega⟩,?_⟩;refine E3 [.share] [(1,96)] [] rfl rfl (by simp) (by simp) (by simp) ?_;simp only[go_sem]
end Go.Abs
end
section
namespace Go.Abs
open Go.Proofs
open Api
def Shape.sm(s:Shape):Prop:=s.Vertices.length≤1048576
def Fixture.sm(f:Fixture):Prop:=Shape.sm f.Shape
def Body.sm(b:Body):Prop:=b.Fixtures.length≤1048576∧ ∀f∈b.Fixtures,Fixture.sm f
def Manifold.sm(m:Manifold):Prop:=m.Points.length≤1048576
def Wsm(w:Api.World):Prop:=w.Bodies.length≤1048576∧w.Joints.length≤1048576∧w.Contacts.length≤1048576∧w.Overlaps.length≤1048576∧(∀b∈w.Bodies,Body.sm b)∧ ∀c∈w.Contacts,Manifold.sm c.Manifold
theorem C84(s:Shape)(h:Shape.sm s):A5 Tryz.prog C9n [.agg s.enc] [] (.agg s.enc) []:=by refine P7 8 [(2,some (some 3))] hm A1 Tryz.func122 rfl ?_;simp only[go_sem];refine I4 [false] [(1,96)] (B9d s.Vertices h) (by simp) (by simp) (by simp) (by simp) ?_;simp only[go_sem]
theorem B14(s:Manifold)(h:Manifold.sm s):A5 Tryz.prog C26 [.agg s.enc] [] (.agg s.enc) []:=by refine P7 8 [(2,some (some 3))] hm A1 Tryz.func66 rfl ?_;simp only[go_sem];refine I4 [false] [(1,96)] (A9r s.Points h) (by simp) (by simp) (by simp) (by simp) ?_;simp only[go_sem]
theorem A8a(b:Body)(h:Body.sm b):A5 Tryz.prog D14 [.agg b.enc] [] (.agg b.enc) []:=by
 refine P7 25 [(2,some (some 20))] hm A1 Tryz.func65 rfl ?_;simp only[go_sem];refine C6 hm (ι:= {i:Nat // i≤b.Fixtures.length}) (fun i=> [(1, .share, .ptr 32 0 0 1),(2, .share, .ptr 48 0 0 1),(3,if i.1=0 then .adopt else .share, .sl 1 0 i.1 i.1),(7, .share,B4 10 Fixture.enc default b.Fixtures),(8, .share, .sc (.int .i64 b.Fixtures.length)),(9, .share, .sc (.int .i64 i.1))])
  (fun i=> [(32, .box b.enc),(48, .box Body.zero),(1, .arr 10 (D2 Fixture.enc default (b.Fixtures.take i.1)))]) (fun i=>b.Fixtures.length-i.1) ⟨0,by omega⟩ ?_ ?_
 ·refine B3 [] [1] (by simp) (by simp[A9]) (by simp) ?_;simp only[go_sem]
 ·rintro⟨i,hi⟩;simp only[go_sem];split
  ·rename_i hlt;have hlt:i<b.Fixtures.length:=by omega
   refine⟨⟨by omega,by omega⟩,?_⟩;refine A0 (C84 (b.Fixtures.getD i default).Shape (h.2 _ (D6 _ hlt))) rfl ?_;simp only[go_sem];have hb:=h.1;refine⟨ok_,?_⟩;refine B8 ⟨i+1,by omega⟩ (by show b.Fixtures.length-(i+1)<b.Fixtures.length-i;omega) (F9 [] [] ?_);simp only[go_sem];exact⟨by omega,(by rw[IntKind.wrap_i64];omega),A3o (b.Fixtures.getD i default) rfl (A1e default hlt)⟩
  ·rename_i hge;obtain rfl:i=b.Fixtures.length:=by omega
   simp only[List.take_length,Nat.min_self,go_sem]
end Go.Abs
end
section
namespace Go.Abs
open Go.Proofs
open Api
def E6n(w:Api.World)(a b c d:Nat):AV:= .agg [.sc (.int .i64 w.Settings.TimeStep), .sc (.int .i64 w.Settings.Gravity.X), .sc (.int .i64 w.Settings.Gravity.Y), .sc (.int .i64 w.Settings.Iterations), .sc (.int .i64 w.Settings.SleepSteps),
 .sl a 0 w.Bodies.length w.Bodies.length, .sl b 0 w.Joints.length w.Joints.length, .sl c 0 w.Contacts.length w.Contacts.length, .sl d 0 w.Overlaps.length w.Overlaps.length, .sc (.int .i64 w.NextID), .sc (.int .i64 w.Frame)]
def A5p(w:Api.World)(a b c d:Nat):List (Nat×A8):= [(a, .arr 20 (D2 Body.enc default w.Bodies)),(b, .arr 24 (D2 Joint.enc default w.Joints)),(c, .arr 7 (D2 D5.enc default w.Contacts)),(d, .arr 4 (D2 B2.enc default w.Overlaps))]
attribute [go_sem] E6n A5p
theorem B5s {α:Type}(l:List α)(i:Nat)(d:α)(h:i<l.length):l.set i (l.getD i d)=l:=by simp[List.getD,h]
theorem A0n(w:Api.World)(h:Wsm w):A5 Tryz.prog B7l [.agg w.enc] [] (E6n w 1 2 3 4) (A5p w 1 2 3 4):=by
 obtain⟨h1,h2,h3,h4,h5,h6⟩:=h;refine D68 56 [(2,some (some 11))] hm A1 Tryz.func31 rfl ?_;simp only[go_sem];refine I4 [false] [(1,1)] (A8t w.Bodies h1) (by simp) (by simp) (by simp) (by simp) ?_;simp only[go_sem];refine I4 [false] [(1,2)] (A8k w.Joints h2) (by simp) (by simp) (by simp) (by simp) ?_;simp only[go_sem];refine I4 [false] [(1,3)] (A6j w.Contacts h3) (by simp) (by simp) (by simp) (by simp) ?_;simp only[go_sem];refine I4 [false] [(1,4)] (A6k w.Overlaps h4) (by simp) (by simp) (by simp) (by simp) ?_;simp only[go_sem];refine C6 hm (ι:= {i:Nat // i≤w.Bodies.length}) (fun i=> [(1, .share, .ptr 32 0 0 1),(2, .share, .ptr 48 0 0 1),(24, .share, .sl 1 0 w.Bodies.length w.Bodies.length),(25, .share, .sc (.int .i64 w.Bodies.length)),(26, .share, .sc (.int .i64 i.1))])
  (fun i=>(32, .box [.sc (.int .i64 w.Settings.TimeStep), .sc (.int .i64 w.Settings.Gravity.X), .sc (.int .i64 w.Settings.Gravity.Y), .sc (.int .i64 w.Settings.Iterations), .sc (.int .i64 w.Settings.SleepSteps),
 .sl 1 0 w.Bodies.length w.Bodies.length, .sl 2 0 w.Joints.length w.Joints.length, .sl 3 0 w.Contacts.length w.Contacts.length, .sl 4 0 w.Overlaps.length w.Overlaps.length, .sc (.int .i64 w.NextID), .sc (.int .i64 w.Frame)])::(48, .box World.zero)::A5p w 1 2 3 4) (fun i=>w.Bodies.length-i.1) ⟨0,by omega⟩ ?_ ?_
 ·refine B3 [] [] (by simp[A5p]) (by simp[A9,A5p]) (by simp) ?_;simp only[go_sem]
 ·rintro⟨i,hi⟩;simp only[go_sem];split
  ·rename_i hlt;have hlt:i<w.Bodies.length:=by omega
   refine⟨⟨by omega,by omega⟩,?_⟩;refine A0 (A8a (w.Bodies.getD i default) (h5 _ (D6 _ hlt))) rfl ?_;simp only[go_sem];refine⟨ok_,?_⟩;refine B8 ⟨i+1,by omega⟩ (by show w.Bodies.length-(i+1)<w.Bodies.length-i;omega) (F9 [] [] ?_);simp only[go_sem];exact⟨(by rw[IntKind.wrap_i64];omega),A9d (w.Bodies.getD i default) hlt rfl (B5s _ _ _ hlt)⟩
  ·rename_i hge;obtain rfl:i=w.Bodies.length:=by omega
   refine C6 hm (ι:= {i:Nat // i≤w.Contacts.length}) (fun i=> [(1, .share, .ptr 32 0 0 1),(2, .share, .ptr 48 0 0 1),(39, .share, .sl 3 0 w.Contacts.length w.Contacts.length),(40, .share, .sc (.int .i64 w.Contacts.length)),(41, .share, .sc (.int .i64 i.1))])
    (fun i=>(32, .box [.sc (.int .i64 w.Settings.TimeStep), .sc (.int .i64 w.Settings.Gravity.X), .sc (.int .i64 w.Settings.Gravity.Y), .sc (.int .i64 w.Settings.Iterations), .sc (.int .i64 w.Settings.SleepSteps),
 .sl 1 0 w.Bodies.length w.Bodies.length, .sl 2 0 w.Joints.length w.Joints.length, .sl 3 0 w.Contacts.length w.Contacts.length, .sl 4 0 w.Overlaps.length w.Overlaps.length, .sc (.int .i64 w.NextID), .sc (.int .i64 w.Frame)])::(48, .box World.zero)::A5p w 1 2 3 4) (fun i=>w.Contacts.length-i.1) ⟨0,by omega⟩ ?_ ?_
   ·refine B3 [] [] (by simp[A5p]) (by simp[A9,A5p]) (by simp) ?_;simp only[go_sem]
   ·rintro⟨i,hi⟩;simp only[go_sem];split
    ·rename_i hlt;have hlt:i<w.Contacts.length:=by omega
     refine⟨⟨by omega,by omega⟩,?_⟩;refine A0 (B14 (w.Contacts.getD i default).Manifold (h6 _ (D6 _ hlt))) rfl ?_;simp only[go_sem];refine⟨ok_,?_⟩;refine B8 ⟨i+1,by omega⟩ (by show w.Contacts.length-(i+1)<w.Contacts.length-i;omega) (F9 [] [] ?_);simp only[go_sem];exact⟨(by rw[IntKind.wrap_i64];omega),A9d (w.Contacts.getD i default) hlt rfl (B5s _ _ _ hlt)⟩
    ·rename_i hge;obtain rfl:i=w.Contacts.length:=by omega
     refine E3 [.share] [] [] rfl rfl (by simp[A5p]) (by simp[A9,A5p]) (by simp) ?_;simp only[go_sem]
end Go.Abs
end
section
namespace Go.Abs
open Go.Proofs
open Api
theorem A07 {α:Type}{l m:List α}{i:Nat}(d:α)(h:l.take i=m.take i)(hl:i<l.length)(hm:i<m.length)(he:l.getD i d=m.getD i d):l.take (i+1)=m.take (i+1):=by rw[A1e d hl,A1e d hm,h,he]
theorem A5y {α:Type}{l m:List α}(hlen:l.length=m.length)(h:l.take l.length=m.take l.length):l=m:=by rw[List.take_length]at h;rw[hlen,List.take_length]at h;exact h
theorem C73 {α:Type}{l m:List α}{i:Nat}(d:α)(h:l.getD i d≠m.getD i d):l≠m:=fun e=>h (by rw[e])
theorem C32 {α:Type}{l m:List α}(h:l.length≠m.length):l≠m:=fun e=>h (by rw[e])
theorem Vec.beq(x y:Vec):(x.X==y.X&&x.Y==y.Y)=decide (x=y):=by cases x;cases y;rw[Bool.eq_iff_iff];simp
theorem B2.beq(x y:B2):(x.BodyA==y.BodyA&&(x.FixtureA==y.FixtureA&&(x.BodyB==y.BodyB&&x.FixtureB==y.FixtureB)))=decide (x=y):=by cases x;cases y;rw[Bool.eq_iff_iff];simp
theorem C4.beq(x y:C4):(x.Point.X==y.Point.X&&(x.Point.Y==y.Point.Y&&(x.Separation==y.Separation&&(x.ID==y.ID&&(x.NormalImpulse==y.NormalImpulse&&x.TangentImpulse==y.TangentImpulse)))))=decide (x=y):=by obtain⟨⟨a,b⟩,c,d,e,f⟩:=x;obtain⟨⟨a',b'⟩,c',d',e',f'⟩:=y;rw[Bool.eq_iff_iff];simp[and_assoc]
theorem C5g(l m:List Vec)(hl:l.length≤1048576):A5 Tryz.prog C5j [B4 2 Vec.enc default l,B4 2 Vec.enc default m] [] (.sc (.bool (decide (l=m)))) []:=by
 refine en1 hm A1 Tryz.func261 rfl rfl ?_;simp only[go_sem];split
 ·rename_i hne;exact(decide_eq_false (C32 fun e=>by rw[e]at hne;simp at hne)).symm
 ·rename_i hne;have hlen:l.length=m.length:=by simp at hne;omega
  refine C6 hm (ι:= {i:Nat // i≤l.length∧l.take i=m.take i}) (fun i=> [(0, .share,B4 2 Vec.enc default l),(1, .share,B4 2 Vec.enc default m),(5, .share, .sc (.int .i64 i.1))])
   (fun i=> []) (fun i=>l.length-i.1) ⟨0,by omega,rfl⟩ ?_ ?_
  ·refine B3 [] [] (by simp) (by simp[A9]) (by simp) ?_;simp only[go_sem]
  ·rintro⟨i,hi,ht⟩;simp only[Vec.beq,go_sem];split
   ·rename_i hlt;have hlt:i<l.length:=by omega
    have hltm:i<m.length:=by omega
    refine⟨ok_,ok_,?_⟩;by_cases he:l.getD i default=m.getD i default
    ·rw[if_neg (by rw[decide_eq_true he];simp)];refine B8 ⟨i+1,by omega,A07 default ht hlt hltm he⟩ (by show l.length-(i+1)<l.length-i;omega) (F9 [] [] ?_);simp only[go_sem];exact(by rw[IntKind.wrap_i64];omega)
    ·rw[if_pos (decide_eq_false he)];exact(decide_eq_false (C73 default he)).symm
   ·rename_i hge;have hil:i=l.length:=by omega
    subst hil;exact(decide_eq_true (A5y hlen ht)).symm
theorem D58(l m:List B2)(hl:l.length≤1048576):A5 Tryz.prog D6x [B4 4 B2.enc default l,B4 4 B2.enc default m] [] (.sc (.bool (decide (l=m)))) []:=by
 refine en1 hm A1 Tryz.func41 rfl rfl ?_;simp only[go_sem];split
 ·rename_i hne;exact(decide_eq_false (C32 fun e=>by rw[e]at hne;simp at hne)).symm
 ·rename_i hne;have hlen:l.length=m.length:=by simp at hne;omega
  refine C6 hm (ι:= {i:Nat // i≤l.length∧l.take i=m.take i}) (fun i=> [(0, .share,B4 4 B2.enc default l),(1, .share,B4 4 B2.enc default m),(5, .share, .sc (.int .i64 i.1))])
   (fun i=> []) (fun i=>l.length-i.1) ⟨0,by omega,rfl⟩ ?_ ?_
  ·refine B3 [] [] (by simp) (by simp[A9]) (by simp) ?_;simp only[go_sem]
  ·rintro⟨i,hi,ht⟩;simp only[B2.beq,go_sem];split
   ·rename_i hlt;have hlt:i<l.length:=by omega
    have hltm:i<m.length:=by omega
    refine⟨ok_,ok_,?_⟩;by_cases he:l.getD i default=m.getD i default
    ·rw[if_neg (by rw[decide_eq_true he];simp)];refine B8 ⟨i+1,by omega,A07 default ht hlt hltm he⟩ (by show l.length-(i+1)<l.length-i;omega) (F9 [] [] ?_);simp only[go_sem];exact(by rw[IntKind.wrap_i64];omega)
    ·rw[if_pos (decide_eq_false he)];exact(decide_eq_false (C73 default he)).symm
   ·rename_i hge;have hil:i=l.length:=by omega
    subst hil;exact(decide_eq_true (A5y hlen ht)).symm
theorem D4f(x y:Shape)(h:Shape.sm x):A5 Tryz.prog D4n [.agg x.enc, .agg y.enc] [] (.sc (.bool (decide (x=y)))) []:=by refine en1 hm A1 Tryz.func161 rfl rfl ?_;simp only[go_sem];refine A0 (C5g x.Vertices y.Vertices h) rfl ?_;simp only[go_sem];cases x;cases y;rw[Bool.eq_iff_iff];simp[and_assoc]
theorem B90(x y:Fixture)(h:Fixture.sm x):A5 Tryz.prog B98 [.agg x.enc, .agg y.enc] [] (.sc (.bool (decide (x=y)))) []:=by refine en1 hm A1 Tryz.func81 rfl rfl ?_;simp only[go_sem];refine A0 (D4f x.Shape y.Shape h) rfl ?_;simp only[go_sem];cases x;cases y;rw[Bool.eq_iff_iff];simp[and_assoc]
theorem D32(x y:Manifold)(h:Manifold.sm x):A5 Tryz.prog D4l [.agg x.enc, .agg y.enc] [] (.sc (.bool (decide (x=y)))) []:=by
 unfold Manifold.sm at h;refine en1 hm A1 Tryz.func43 rfl rfl ?_;simp only[Vec.beq,go_sem];split
 ·rename_i hc;exact(decide_eq_false fun e=>by subst e;simp at hc).symm
 ·rename_i hc;simp at hc;obtain⟨hn,hlen⟩:=hc;have hlen:x.Points.length=y.Points.length:=by omega
  refine C6 hm (ι:= {i:Nat // i≤x.Points.length∧x.Points.take i=y.Points.take i}) (fun i=> [(2, .share, .ptr 48 0 0 1),(3, .share, .ptr 64 0 0 1),(5, .share, .sc (.int .i64 i.1))])
   (fun i=> [(48, .box x.enc),(64, .box y.enc)]) (fun i=>x.Points.length-i.1) ⟨0,by omega,rfl⟩ ?_ ?_
  ·refine B3 [] [] (by simp) (by simp[A9]) (by simp) ?_;simp only[go_sem]
  ·rintro⟨i,hi,ht⟩;simp only[C4.beq,go_sem];split
   ·rename_i hlt;have hlt:i<x.Points.length:=by omega
    have hltm:i<y.Points.length:=by omega
    refine⟨ok_,ok_,?_⟩;by_cases he:x.Points.getD i default=y.Points.getD i default
    ·rw[if_neg (by rw[decide_eq_true he];simp)];refine B8 ⟨i+1,by omega,A07 default ht hlt hltm he⟩ (by show x.Points.length-(i+1)<x.Points.length-i;omega) (B3 [] [] (by simp) (by simp[A9]) (by simp) ?_);simp only[go_sem];exact(by rw[IntKind.wrap_i64];omega)
    ·rw[if_pos (decide_eq_false he)];exact(decide_eq_false fun e=>he (by rw[e])).symm
   ·rename_i hge;have hil:i=x.Points.length:=by omega
    subst hil;have hp:=A5y hlen ht;exact(decide_eq_true (by obtain⟨a,b⟩:=x;obtain⟨c,d⟩:=y;simp only at hn hp;rw[hn,hp])).symm
theorem D4p(x y:Body)(h:Body.sm x):A5 Tryz.prog D3e [.agg x.enc, .agg y.enc] [] (.sc (.bool (decide (x=y)))) []:=by
 have hb:=h.1;refine en1 hm A1 Tryz.func42 rfl rfl ?_;simp only[go_sem];split
 ·rename_i hc;exact(decide_eq_false fun e=>by subst e;simp at hc).symm
 ·rename_i hc;simp at hc;have hlen:x.Fixtures.length=y.Fixtures.length:=by omega
  refine C6 hm (ι:= {i:Nat // i≤x.Fixtures.length∧x.Fixtures.take i=y.Fixtures.take i}) (fun i=> [(2, .share, .ptr 48 0 0 1),(3, .share, .ptr 64 0 0 1),(5, .share, .sc (.int .i64 i.1))])
   (fun i=> [(48, .box x.enc),(64, .box y.enc)]) (fun i=>x.Fixtures.length-i.1) ⟨0,by omega,rfl⟩ ?_ ?_
  ·refine B3 [] [] (by simp) (by simp[A9]) (by simp) ?_;simp only[go_sem]
  ·rintro⟨i,hi,ht⟩;simp only[go_sem];by_cases hlt:i<x.Fixtures.length
   ·have hltm:i<y.Fixtures.length:=by omega
    rw[if_pos (by rw[if_pos (by omega)];exact decide_eq_true (by omega))];refine⟨ok_,ok_,?_⟩;refine A0 (B90 (x.Fixtures.getD i default) (y.Fixtures.getD i default) (h.2 _ (D6 _ hlt))) rfl ?_;simp only[go_sem];by_cases he:x.Fixtures.getD i default=y.Fixtures.getD i default
    ·rw[if_neg (by rw[decide_eq_true he];simp)];refine B8 ⟨i+1,by omega,A07 default ht hlt hltm he⟩ (by show x.Fixtures.length-(i+1)<x.Fixtures.length-i;omega) (B3 [] [] (by simp) (by simp[A9]) (by simp) ?_);simp only[go_sem];exact(by rw[IntKind.wrap_i64];omega)
    ·rw[if_pos (decide_eq_false he)];exact(decide_eq_false fun e=>he (by rw[e])).symm
   ·rw[if_neg (by rw[if_neg (by omega)];simp)];have hil:i=x.Fixtures.length:=by omega
    subst hil;have hp:=A5y hlen ht;split
    ·rename_i hc;exact(decide_eq_false fun e=>by subst e;simp at hc).symm
    ·rename_i hc2;clear hc hlen ht hi hlt hb h;obtain⟨x0,x1,⟨⟨x2,x3⟩,x4⟩,⟨x5,x6⟩,x7,⟨x8,x9⟩,x10,x11,x12,x13,x14,x15,x16,x17,x18,x19⟩:=x;obtain⟨y0,y1,⟨⟨y2,y3⟩,y4⟩,⟨y5,y6⟩,y7,⟨y8,y9⟩,y10,y11,y12,y13,y14,y15,y16,y17,y18,y19⟩:=y;simp only at hp;subst hp;simp at hc2;rw[Bool.eq_iff_iff];simp[hc2,and_assoc]
end Go.Abs
end
section
namespace Go.Abs
open Go.Proofs
open Api
theorem Joint.beq(x y:Joint):((x.ID==y.ID)&&((x.Kind==y.Kind)&&((x.BodyA==y.BodyA)&&((x.BodyB==y.BodyB)&&((x.AnchorA.X==y.AnchorA.X)&&((x.AnchorA.Y==y.AnchorA.Y)&&((x.AnchorB.X==y.AnchorB.X)&&((x.AnchorB.Y==y.AnchorB.Y)&&((x.Axis.X==y.Axis.X)&&((x.Axis.Y==y.Axis.Y)&&((x.ReferenceAngle==y.ReferenceAngle)&&((x.EnableLimit==y.EnableLimit)&&((x.Lower==y.Lower)&&((x.Upper==y.Upper)&&((x.EnableMotor==y.EnableMotor)&&((x.MotorSpeed==y.MotorSpeed)&&((x.MaxForce==y.MaxForce)&&((x.Softness==y.Softness)&&((x.BreakForce==y.BreakForce)&&((x.CollideConnected==y.CollideConnected)&&((x.Impulses.I0==y.Impulses.I0)&&((x.Impulses.I1==y.Impulses.I1)&&((x.Impulses.I2==y.Impulses.I2)&&(x.Impulses.I3==y.Impulses.I3))))))))))))))))))))))))=decide (x=y):=by obtain⟨a0,a1,a2,a3,⟨a4,a5⟩,⟨a6,a7⟩,⟨a8,a9⟩,a10,a11,a12,a13,a14,a15,a16,a17,a18,a19,⟨a20,a21,a22,a23⟩⟩:=x;obtain⟨b0,b1,b2,b3,⟨b4,b5⟩,⟨b6,b7⟩,⟨b8,b9⟩,b10,b11,b12,b13,b14,b15,b16,b17,b18,b19,⟨b20,b21,b22,b23⟩⟩:=y;rw[Bool.eq_iff_iff];simp[and_assoc]
theorem Settings.beq(x y:Settings):((x.TimeStep==y.TimeStep)&&((x.Gravity.X==y.Gravity.X)&&((x.Gravity.Y==y.Gravity.Y)&&((x.Iterations==y.Iterations)&&(x.SleepSteps==y.SleepSteps)))))=decide (x=y):=by obtain⟨a0,⟨a1,a2⟩,a3,a4⟩:=x;obtain⟨b0,⟨b1,b2⟩,b3,b4⟩:=y;rw[Bool.eq_iff_iff];simp[and_assoc]
theorem D31(x y:Api.World)(h:Wsm x):A5 Tryz.prog D4q [.agg x.enc, .agg y.enc] [] (.sc (.bool (decide (x=y)))) []:=by
 obtain⟨h1,h2,h3,h4,h5,h6⟩:=h;refine en1 hm A1 Tryz.func14 rfl rfl ?_;simp only[Settings.beq,go_sem];refine A0 (D58 x.Overlaps y.Overlaps h4) rfl ?_;simp only[go_sem];split
 ·rename_i hc;exact(decide_eq_false fun e=>by subst e;simp at hc).symm
 ·rename_i hc;simp at hc;obtain⟨⟨⟨⟨⟨⟨e1,e2⟩,e3⟩,e4⟩,e5⟩,e6⟩,e7⟩:=hc;have l0:x.Bodies.length=y.Bodies.length:=by omega
  refine C6 hm (ι:= {i:Nat // i≤x.Bodies.length∧x.Bodies.take i=y.Bodies.take i}) (fun i=> [(2, .share, .ptr 48 0 0 1),(3, .share, .ptr 64 0 0 1),(5, .share, .sc (.int .i64 i.1))])
   (fun i=> [(48, .box x.enc),(64, .box y.enc)]) (fun i=>x.Bodies.length-i.1) ⟨0,by omega,rfl⟩ ?_ ?_
  ·refine B3 [] [] (by simp) (by simp[A9]) (by simp) ?_;simp only[go_sem]
  ·rintro⟨i,hi,ht⟩;simp only[Joint.beq,B2.beq,go_sem];split
   ·rename_i hlt;have hlt:i<x.Bodies.length:=by omega
    have hltm:i<y.Bodies.length:=by omega
    refine⟨ok_,ok_,?_⟩;refine A0 (D4p (x.Bodies.getD i default) (y.Bodies.getD i default) (h5 _ (D6 _ hlt))) rfl ?_;simp only[go_sem];by_cases he:x.Bodies.getD i default=y.Bodies.getD i default
    ·rw[if_neg (by rw[he];simp)];refine B8 ⟨i+1,by omega,A07 default ht hlt hltm he⟩ (by show x.Bodies.length-(i+1)<x.Bodies.length-i;omega) (B3 [] [] (by simp) (by simp[A9]) (by simp) ?_);simp only[go_sem];exact(by rw[IntKind.wrap_i64];omega)
    ·rw[if_pos (decide_eq_false he)];exact(decide_eq_false fun e=>he (by rw[e])).symm
   ·rename_i hge;have hil:i=x.Bodies.length:=by omega
    subst hil;have p0:=A5y l0 ht;clear ht hi hge;have l1:x.Joints.length=y.Joints.length:=by omega
    refine C6 hm (ι:= {i:Nat // i≤x.Joints.length∧x.Joints.take i=y.Joints.take i}) (fun i=> [(2, .share, .ptr 48 0 0 1),(3, .share, .ptr 64 0 0 1),(6, .share, .sc (.int .i64 i.1))])
     (fun i=> [(48, .box x.enc),(64, .box y.enc)]) (fun i=>x.Joints.length-i.1) ⟨0,by omega,rfl⟩ ?_ ?_
    ·refine B3 [] [] (by simp) (by simp[A9]) (by simp) ?_;simp only[go_sem]
    ·rintro⟨i,hi,ht⟩;simp only[Joint.beq,B2.beq,go_sem];split
     ·rename_i hlt;have hlt:i<x.Joints.length:=by omega
      have hltm:i<y.Joints.length:=by omega
      refine⟨ok_,ok_,?_⟩;by_cases he:x.Joints.getD i default=y.Joints.getD i default
      ·rw[if_neg (by rw[he];simp)];refine B8 ⟨i+1,by omega,A07 default ht hlt hltm he⟩ (by show x.Joints.length-(i+1)<x.Joints.length-i;omega) (B3 [] [] (by simp) (by simp[A9]) (by simp) ?_);simp only[go_sem];exact(by rw[IntKind.wrap_i64];omega)
      ·rw[if_pos (decide_eq_false he)];exact(decide_eq_false fun e=>he (by rw[e])).symm
     ·rename_i hge;have hil:i=x.Joints.length:=by omega
      subst hil;have p1:=A5y l1 ht;clear ht hi hge;have l2:x.Contacts.length=y.Contacts.length:=by omega
      refine C6 hm (ι:= {i:Nat // i≤x.Contacts.length∧x.Contacts.take i=y.Contacts.take i}) (fun i=> [(2, .share, .ptr 48 0 0 1),(3, .share, .ptr 64 0 0 1),(7, .share, .sc (.int .i64 i.1))])
       (fun i=> [(48, .box x.enc),(64, .box y.enc)]) (fun i=>x.Contacts.length-i.1) ⟨0,by omega,rfl⟩ ?_ ?_
      ·refine B3 [] [] (by simp) (by simp[A9]) (by simp) ?_;simp only[go_sem]
      ·rintro⟨i,hi,ht⟩;simp only[Joint.beq,B2.beq,go_sem];split
       ·rename_i hlt;have hlt:i<x.Contacts.length:=by omega
        have hltm:i<y.Contacts.length:=by omega
        refine⟨ok_,ok_,?_⟩;refine⟨ok_,ok_,?_⟩;refine A0 (D32 (x.Contacts.getD i default).Manifold (y.Contacts.getD i default).Manifold (h6 _ (D6 _ hlt))) rfl ?_;simp only[go_sem];by_cases he:x.Contacts.getD i default=y.Contacts.getD i default
        ·rw[if_neg (by rw[he];simp)];refine B8 ⟨i+1,by omega,A07 default ht hlt hltm he⟩ (by show x.Contacts.length-(i+1)<x.Contacts.length-i;omega) (B3 [] [] (by simp) (by simp[A9]) (by simp) ?_);simp only[go_sem];exact(by rw[IntKind.wrap_i64];omega)
        ·rw[if_pos (by
          by_cases hk:(x.Contacts.getD i default).Key=(y.Contacts.getD i default).Key
          ·by_cases hm2:(x.Contacts.getD i default).Manifold=(y.Contacts.getD i default).Manifold
           ·exact absurd (by generalize x.Contacts.getD i default=a at*;generalize y.Contacts.getD i default=b at*;cases a;cases b;simp only at hk hm2;rw[hk,hm2]) he
           ·simp only[hm2,decide_false,Bool.not_false,Bool.or_true]
          ·simp only[hk,decide_false,Bool.not_false,Bool.true_or])]
         exact(decide_eq_false fun e=>he (by rw[e])).symm
       ·rename_i hge;have hil:i=x.Contacts.length:=by omega
        subst hil;have p2:=A5y l2 ht;clear ht hi hge;exact(decide_eq_true (by obtain⟨a1,a2,a3,a4,a5,a6,a7⟩:=x;obtain⟨b1,b2,b3,b4,b5,b6,b7⟩:=y;simp only at e1 e2 e3 e7 p0 p1 p2;subst e1 e2 e3 e7 p0 p1 p2;rfl)).symm
end Go.Abs
end
section
namespace Go.Abs
open Go.Proofs
open Api
def sat(x:Int):Int:=if x>536870911 then 536870911 else if x < -536870911 then -536870911 else x
theorem T1(x:Int): -536870911≤sat x∧sat x≤536870911:=by unfold sat;split <;> (try split) <;> omega
def A77(v:Vec):Vec:=⟨sat v.X,sat v.Y⟩
theorem H5(x:Int):A5 Tryz.prog C4f [.sc (.int .i64 x)] [] (.sc (.int .i64 (sat x))) []:=by
 refine en1 hm A1 Tryz.func245 rfl rfl ?_;simp only[go_sem];unfold sat
 (repeat' split) <;> omega
theorem A30(x:Int):A5 Tryz.prog C7t [.sc (.int .i64 x)] [] (.sc (.int .i64 (sat x))) []:=by
 refine en1 hm A1 Tryz.func325 rfl rfl ?_;simp only[go_sem];unfold sat
 (repeat' split) <;> omega
theorem T9(v:Vec):A5 Tryz.prog C45 [.agg v.enc] [] (.agg (A77 v).enc) []:=by refine P7 10 [(2,some (some 2))] hm A1 Tryz.func247 rfl ?_;simp only[go_sem];refine A0 (H5 v.X) rfl ?_;simp only[go_sem];refine A0 (H5 v.Y) rfl ?_;simp only[A77,go_sem]
theorem A47(v:Vec):A5 Tryz.prog C58 [.agg v.enc] [] (.agg (A77 v).enc) []:=by refine P7 10 [(2,some (some 2))] hm A1 Tryz.func211 rfl ?_;simp only[go_sem];refine A0 (A30 v.X) rfl ?_;simp only[go_sem];refine A0 (A30 v.Y) rfl ?_;simp only[A77,go_sem]
def A8i(a b:Vec):Int:=(sat b.X-sat a.X)*(sat b.X-sat a.X)+(sat b.Y-sat a.Y)*(sat b.Y-sat a.Y)
theorem B7h {x m:Int}(h1: -m≤x)(h2:x≤m):0≤x*x∧x*x≤m*m:=by
 have h0:0≤m:=by omega
 constructor
 ·rcases Int.le_total 0 x with h |h
  ·exact Int.mul_nonneg h h
  ·exact Int.mul_nonneg_of_nonpos_of_nonpos h h
 ·rcases Int.le_total 0 x with h |h
  ·exact Int.mul_le_mul h2 h2 h h0
  ·have:=Int.mul_le_mul (show -x≤m by omega) (show -x≤m by omega) (show 0≤ -x by omega) h0
   rwa[Int.neg_mul_neg]at this
theorem X3(a b:Vec):A5 Tryz.prog B30 [.agg a.enc, .agg b.enc] [] (.sc (.int .i64 (A8i a b))) []:=by
 refine en1 hm A1 Tryz.func242 rfl rfl ?_;simp only[go_sem];refine A0 (T9 a) rfl ?_;simp only[go_sem];refine A0 (T9 b) rfl ?_;simp only[A77,go_sem];have a1:=T1 a.X;have a2:=T1 a.Y;have b1:=T1 b.X;have b2:=T1 b.Y
 have w1:IntKind.i64.wrap (sat b.X-sat a.X)=sat b.X-sat a.X:=by rw[IntKind.wrap_i64];omega
 have w2:IntKind.i64.wrap (sat b.Y-sat a.Y)=sat b.Y-sat a.Y:=by rw[IntKind.wrap_i64];omega
 have h1:=B7h (x:=sat b.X-sat a.X) (m:=1073741822) (by omega) (by omega)
 have h2:=B7h (x:=sat b.Y-sat a.Y) (m:=1073741822) (by omega) (by omega);rw[w1,w2];unfold A8i;generalize(sat b.X-sat a.X)*(sat b.X-sat a.X)=p at*;generalize(sat b.Y-sat a.Y)*(sat b.Y-sat a.Y)=q at*;simp only[IntKind.wrap_i64];omega
def B1u(n:Nat):Nat→Nat→Nat
 |0,r=>r
 |k+1,r=>B1u n k (if(r+2^k)*(r+2^k)≤n then r+2^k else r)
def isq(n:Int):Int:=if n<0∨n>4611686018427387904 then 0 else B1u n.toNat 32 0
def B6m:Nat→Int
 |0=>0
 |k+1=>((2^k:Nat):Int)
theorem E57 {r k:Nat}(hr:2^(k+1)∣r)(hlt:r<4294967296)(hk:k<32):IntKind.i64.wrap (((BitVec.ofInt 64 (r:Int) ||| BitVec.ofInt 64 ((2^k:Nat):Int)).toNat:Nat):Int)=((r+2^k:Nat):Int):=by
 obtain⟨q,rfl⟩:=hr;have hp:2^k<2^(k+1):=Nat.pow_lt_pow_right (by omega) (by omega)
 have hp2:2^k≤2^31:=Nat.pow_le_pow_right (by omega) (by omega)
 have e:(BitVec.ofInt 64 ((2^(k+1)*q:Nat):Int) ||| BitVec.ofInt 64 ((2^k:Nat):Int)).toNat=2^(k+1)*q+2^k:=by rw[BitVec.toNat_or,BitVec.ofInt_natCast,BitVec.ofInt_natCast,BitVec.toNat_ofNat,BitVec.toNat_ofNat,Nat.mod_eq_of_lt (by omega),Nat.mod_eq_of_lt (by omega),Nat.two_pow_add_eq_or_of_lt hp]
 rw[e,IntKind.wrap_i64];omega
theorem D5c {n:Int}(h:n<0∨n>4611686018427387904):isq n=0:=by unfold isq;rw[if_pos h]
theorem D0q {n:Int}(h: ¬(n<0∨n>4611686018427387904)):isq n=B1u n.toNat 32 0:=by unfold isq;rw[if_neg h]
theorem E07(k:Nat):((2^k:Nat):Int).fdiv (2^min 1 64)=B6m k:=by
 rw[Int.fdiv_eq_ediv_of_nonneg _ (by decide)];cases k with
 |zero=>decide
 |succ k=>show((2^(k+1):Nat):Int) / 2=((2^k:Nat):Int);rw[Nat.pow_succ];omega
theorem D1y {r k:Nat}(hr:2^(k+1)∣r)(hlt:r+2^(k+1)≤4294967296):2^k∣r∧r+2^k≤4294967296∧2^k∣r+2^k∧r+2^k+2^k≤4294967296∧0<2^k:=by
 have hp:2^(k+1)=2^k*2:=Nat.pow_succ 2 k
 have h1:2^k∣r:=Nat.dvd_trans ⟨2,hp⟩ hr
 have h0:0<2^k:=Nat.two_pow_pos k;exact⟨h1,by omega,Nat.dvd_add h1 (Nat.dvd_refl _),by omega,h0⟩
theorem A6v(n:Int):A5 Tryz.prog C9o [.sc (.int .i64 n)] [] (.sc (.int .i64 (isq n))) []:=by
 refine en1 hm A1 Tryz.func241 rfl rfl ?_;simp only[go_sem];by_cases hn:n<0∨n>4611686018427387904
 ·rw[if_pos (by by_cases h:n<0;rw[if_pos h];rw[if_neg h];exact decide_eq_true (by omega)),D5c hn]
 ·rw[if_neg (by rw[if_neg (by omega),decide_eq_false (by omega)];simp),D0q hn];refine C6 hm (ι:= {p:Nat×Nat // p.1≤32∧2^p.1∣p.2∧p.2+2^p.1≤4294967296∧B1u n.toNat p.1 p.2=B1u n.toNat 32 0}) (fun p=> [(0, .share, .sc (.int .i64 n)),(3, .share, .sc (.int .i64 p.1.2)),(4, .share, .sc (.int .i64 (B6m p.1.1)))])
   (fun p=> []) (fun p=>p.1.1) ⟨(32,0),by decide,by decide,by decide,rfl⟩ ?_ ?_
  ·refine F9 [] [] ?_;simp only[go_sem];decide
  ·rintro⟨⟨k,r⟩,hk,hr,hlt,he⟩;simp only at hk hr hlt he;simp only[go_sem];cases k with
   |zero=>rw[if_neg (by decide)];rw[←he];rfl
   |succ k=>
    obtain⟨a1,a2,a3,a4,a5⟩:=D1y hr hlt;rw[if_pos (by show(0:Int)<((2^k:Nat):Int);omega)];have hor:=E57 hr (by omega) (show k<32 by omega)
    have hu: ∀m:Nat,m<18446744073709551616→IntKind.u64.wrap (m:Int)=m:=fun m hm'=>by rw[IntKind.wrap_u64];omega
    have hun:IntKind.u64.wrap n=n:=by rw[IntKind.wrap_u64];omega
    have hsq:(r+2^k)*(r+2^k)<18446744073709551616:=by
     have h1:r+2^k≤4294967295:=by omega
     have:=Nat.mul_le_mul h1 h1;omega
    simp only[show B6m (k+1)=((2^k:Nat):Int)from rfl,hun,E07];have key: ∀X:Int,X=((r+2^k:Nat):Int)→IntKind.u64.wrap (IntKind.u64.wrap X*IntKind.u64.wrap X)=(((r+2^k)*(r+2^k):Nat):Int):=fun X hX=>by rw[hX,hu (r+2^k) (by omega),←Int.natCast_mul,hu _ hsq]
    generalize hX:IntKind.i64.wrap _=X;have hX2:X=((r+2^k:Nat):Int):=hX.symm.trans hor;rw[key X hX2];clear hX;subst hX2;by_cases hc:(r+2^k)*(r+2^k)≤n.toNat
    ·rw[if_pos (by omega)];refine⟨by decide,?_⟩;refine B8 ⟨(k,r+2^k),by show k≤32;omega,a3,a4,by rw[←he];simp only[B1u,hc,if_true]⟩ (Nat.lt_succ_self k) (F9 [] [] ?_);simp only[go_sem]
    ·rw[if_neg (by omega)];refine⟨by decide,?_⟩;refine B8 ⟨(k,r),by show k≤32;omega,a1,a2,by rw[←he];simp only[B1u,hc,if_false]⟩ (Nat.lt_succ_self k) (F9 [] [] ?_);simp only[go_sem]
end Go.Abs
end
section
namespace Go.Abs
open Go.Proofs
open Api
theorem A63(n:Int):A5 Tryz.prog C3e [.sc (.int .i64 n)] [] (.sc (.bool (decide (n>4611686018427387904∨n < -4611686018427387904)))) []:=by
 refine en1 hm A1 Tryz.func326 rfl rfl ?_;simp only[go_sem];by_cases h:4611686018427387904<n
 ·rw[if_pos h];exact(decide_eq_true (by omega)).symm
 ·rw[if_neg h];exact decide_eq_decide.2 (by omega)
theorem E0u(k:Nat):IntKind.i64.wrap (((2^k:Nat):Int).tdiv 2)=B6m k∨62<k:=by
 by_cases h:62<k
 ·exact .inr h
 ·left;have hp2:2^k≤2^62:=Nat.pow_le_pow_right (by omega) (by omega);cases k with
  |zero=>decide
  |succ k=>show IntKind.i64.wrap (((2^(k+1):Nat):Int).tdiv 2)=((2^k:Nat):Int);rw[Nat.pow_succ]at*;rw[Int.tdiv_eq_ediv_of_nonneg (by omega),IntKind.wrap_i64];omega
theorem D4z(n:Int):A5 Tryz.prog D3d [.sc (.int .i64 n)] [] (.sc (.int .i64 (isq n))) []:=by
 refine en1 hm A1 Tryz.func212 rfl rfl ?_;simp only[go_sem];refine A0 (A63 n) rfl ?_;simp only[go_sem];by_cases hn:n<0∨n>4611686018427387904
 ·rw[if_pos (by by_cases h:n<0;rw[if_pos h];rw[if_neg h];exact decide_eq_true (by omega)),D5c hn]
 ·rw[if_neg (by rw[if_neg (by omega),decide_eq_false (by omega)];simp),D0q hn];refine C6 hm (ι:= {p:Nat×Nat // p.1≤32∧2^p.1∣p.2∧p.2+2^p.1≤4294967296∧B1u n.toNat p.1 p.2=B1u n.toNat 32 0}) (fun p=> [(0, .share, .sc (.int .i64 n)),(3, .share, .sc (.int .i64 p.1.2)),(4, .share, .sc (.int .i64 (B6m p.1.1)))])
   (fun p=> []) (fun p=>p.1.1) ⟨(32,0),by decide,by decide,by decide,rfl⟩ ?_ ?_
  ·refine F9 [] [] ?_;simp only[go_sem];decide
  ·rintro⟨⟨k,r⟩,hk,hr,hlt,he⟩;simp only at hk hr hlt he;simp only[go_sem];cases k with
   |zero=>rw[if_neg (by decide)];rw[←he];rfl
   |succ k=>
    obtain⟨a1,a2,a3,a4,a5⟩:=D1y hr hlt;rw[if_pos (by show(0:Int)<((2^k:Nat):Int);omega)];have hw:IntKind.i64.wrap ((r:Int)+((2^k:Nat):Int))=((r+2^k:Nat):Int):=by rw[IntKind.wrap_i64];omega
    have hdiv:IntKind.i64.wrap (n.tdiv ((r+2^k:Nat):Int))=((n.toNat / (r+2^k):Nat):Int):=by
     rw[Int.tdiv_eq_ediv_of_nonneg (by omega)];have e:n=(n.toNat:Int):=by omega
     rw[e,←Int.natCast_ediv,Int.toNat_natCast];have:n.toNat / (r+2^k)≤n.toNat:=Nat.div_le_self _ _;generalize n.toNat / (r+2^k)=q at*;rw[IntKind.wrap_i64];omega
    have hhalf:IntKind.i64.wrap (((2^k:Nat):Int).tdiv 2)=B6m k:=(E0u k).resolve_right (by omega);simp only[show B6m (k+1)=((2^k:Nat):Int)from rfl,hw,hdiv,hhalf];refine⟨by omega,?_⟩;have hiff:(r+2^k≤n.toNat / (r+2^k))↔(r+2^k)*(r+2^k)≤n.toNat:=Nat.le_div_iff_mul_le (by omega);by_cases hc:(r+2^k)*(r+2^k)≤n.toNat
    ·rw[if_pos (Int.ofNat_le.2 (hiff.2 hc))];refine⟨by decide,?_⟩;refine B8 ⟨(k,r+2^k),by show k≤32;omega,a3,a4,by rw[←he];simp only[B1u,hc,if_true]⟩ (Nat.lt_succ_self k) (F9 [] [] ?_);simp only[go_sem]
    ·rw[if_neg (fun h=>hc (hiff.1 (Int.ofNat_le.1 h)))];refine⟨by decide,?_⟩;refine B8 ⟨(k,r),by show k≤32;omega,a1,a2,by rw[←he];simp only[B1u,hc,if_false]⟩ (Nat.lt_succ_self k) (F9 [] [] ?_);simp only[go_sem]
def A4c(v:Vec):Int:=isq (A8i ⟨0,0⟩ v)
theorem A1w(v:Vec):A5 Tryz.prog C9b [.agg v.enc] [] (.sc (.int .i64 (A4c v))) []:=by refine en1 hm A1 Tryz.func134 rfl rfl ?_;simp only[go_sem];refine A0 (X3 ⟨0,0⟩ v) rfl ?_;simp only[go_sem];refine A0 (A6v _) rfl ?_;simp only[A4c,go_sem]
theorem B2e(v:Vec):A5 Tryz.prog D0y [.agg v.enc] [] (.sc (.int .i64 (A4c v))) []:=by
 refine en1 hm A1 Tryz.func108 rfl rfl ?_;simp only[go_sem];refine A0 (A47 v) rfl ?_;simp only[A77,go_sem];have e0:sat 0=0:=by decide
 have h:IntKind.i64.wrap (IntKind.i64.wrap (sat v.X*sat v.X)+IntKind.i64.wrap (sat v.Y*sat v.Y))=A8i ⟨0,0⟩ v:=by
  have b1:=T1 v.X;have b2:=T1 v.Y
  have h1:=B7h b1.1 b1.2
  have h2:=B7h b2.1 b2.2;simp only[A8i,e0,Int.sub_zero];generalize sat v.X*sat v.X=p at*;generalize sat v.Y*sat v.Y=q at*;simp only[IntKind.wrap_i64];omega
 rw[h];refine A0 (D4z _) rfl ?_;simp only[A4c,go_sem]
end Go.Abs
end
section
namespace Go.Abs
open Go.Proofs
open Api
def okO(O:List (Nat×A8)):Prop:=(O.map (·.1)).Nodup∧ ∀p∈O,∀cs,p.2= .box cs→ ∀j∈C9 cs,(ofL O j).isSome
theorem B08 {O:List (Nat×A8)}(hn:(O.map (·.1)).Nodup){i:Nat}{o:A8}(h:(i,o)∈O):ofL O i=some o:=by
 rw[A7l O hn];have:O.find? (fun p=>p.1==i)=some (i,o):=by
  induction O with
  |nil=>cases h
  |cons p O ih=>
   simp only[List.map_cons,List.nodup_cons]at hn;rcases List.mem_cons.1 h with e |h'
   ·subst e;simp
   ·have hne:p.1≠i:=fun e=>hn.1 (e▸List.mem_map_of_mem (f:=(·.1)) h')
    simp only[List.find?_cons,beq_eq_false_iff_ne.2 hne];exact ih hn.2 h'
 rw[this];rfl
theorem C6f {O:List (Nat×A8)}: ∀ {cs:List AV},(∀j∈C9 cs,(ofL O j).isSome)→B1i id [] O cs cs
 | [],_=> .nil
 |c::cs,h=>by refine .cons ?_ (C6f fun j hj=>h j (by simp[C9,hj]));have:A9u id [] O (c.ren id) c:= .share fun j hj=>⟨h j (by simp[C9,hj]),by simp⟩;rwa[AV.ren_id]at this
theorem C2r {O:List (Nat×A8)}(h:okO O): ∀(l:List (Nat×A8)),(∀p∈l,p∈O)→A9v (ofL O) id [] O l
 | [],_=>trivial
 |(i,o)::l,hl=>by
  refine⟨?_,C2r h l fun p hp=>hl p (List.mem_cons_of_mem _ hp)⟩;have hio:=hl (i,o) (List.mem_cons_self ..);rw[if_neg (by simp)];simp only[id,B08 h.1 hio];cases o with
  |box cs=>exact .inl ⟨cs,cs,rfl,rfl,C6f (h.2 _ hio cs rfl)⟩
  |_=>exact .inr ⟨(fun cs e=>by cases e),(fun cs e=>by cases e), .inl rfl⟩
theorem R9 {σ:St}{T:O5}{O:List (Nat×A8)}(h:okO O)(hobj:σ.objs=ofL O)(hs:A1h σ id [] O T [] fun wr=>wr= []):A0j (O.map (·.1)) σ T O:=by
 refine⟨id,[],h.1,(by have e:(List.map (fun x=>x.fst) O).filter (fun i=> !([]:List Nat).contains i)=List.map (fun x=>x.fst) O:=List.filter_eq_self.2 (fun a _=>by simp);simp only[e,List.map_id];exact h.1),fun k hk=>⟨by simp,rfl,?_⟩,A7k (fun wr hwr=> ?_) T [] hs⟩
 ·rw[List.mem_map]at hk;obtain⟨p,hp,rfl⟩:=hk;rw[B08 h.1 hp];rfl
 ·subst hwr;have:wrm σ.objs []=ofL O:=hobj;rw[this];exact C2r h O fun _ hp=>hp
theorem O9 {σ:St}{ts:List Nat}{rs:List AV}{O:List (Nat×A8)}(md:List B9j)(hm:md.length=ts.length)(hr:rs.length=ts.length)(h:okO O)(hobj:σ.objs=ofL O)(hs:A1h σ id [] O (B0n ts md rs) [] fun wr=>wr= []):
  A2o (O.map (·.1)) σ ts rs O:=⟨md,hm,hr,R9 h hobj hs⟩
theorem B3r(o:A8):o.ren id=o:=by cases o <;> simp only[A8.ren];rw[J1]
theorem S1 {O:List (Nat×A8)}(h:okO O):wrm (ofL O) (A3b id O)=ofL O:=by
 rw[C1b];funext x;rw[B5i O _ h.1];cases hf:O.find? (fun p=>p.1==x)with
 |none=>rfl
 |some p=>have h1:=List.find?_some hf;simp only[beq_iff_eq]at h1;subst h1;exact(B08 h.1 (List.mem_of_find?_eq_some hf)).symm
theorem A89 {m:Nat→Option A8}{O:List (Nat×A8)}: ∀ {avs:List AV},(∀a∈avs,∀i∈a.ids,(ofL O i).isSome)→M7 m id O (avs.map fun _=>true) avs avs []
 | [],_=>rfl
 |a::avs,h=>⟨AV.ren_id a,h a (List.mem_cons_self ..),A89 fun b hb=>h b (List.mem_cons_of_mem _ hb)⟩
theorem V1 {P:Program}{m:Nat→Option A8}{f:FuncId}{avs:List AV}{b:Bool}{Q:ContR}{O:List (Nat×A8)}{r:AV}(hc:A5 P f avs O r O)(h:okO O)(hm:m=ofL O)
  (ha: ∀a∈avs,∀i∈a.ids,(ofL O i).isSome)(hb:b=true)(hK: @Ri Q b ⟨some r,A3b id O⟩): @A4w P m f avs b Q:=by
 refine⟨⟨some r,A3b id O⟩,fun _=> ?_,fun _=>hb,hK⟩;have:=O0.mk (P:=P) (m:=m) (avs.map fun _=>true) avs O r O id [] false hc (A89 ha)
  (fun i o hi=>by rw[B3r];subst hm;exact hi)
  (fun i cs hi j hj=>h.2 _ (A00 h.1 hi) cs rfl j hj) (fun i hi=>hi) (fun i hi=> .inl hi) (by simpa using h.1) (fun e=>by cases e)
 simpa[AV.ren_id]using this
def C3c(p:Int→Bool)(l:List Int):Int:=match(List.range l.length).find? (fun i=>p (l.getD i 0))with |some i=>i |none=> -1
theorem E3c {p:Int→Bool}{l:List Int}{i:Nat}(hi:i<l.length)(h: ∀j,j<i→p (l.getD j 0)=false)(hp:p (l.getD i 0)=true):C3c p l=i:=by
 have:(List.range l.length).find? (fun i=>p (l.getD i 0))=some i:=by rw[List.find?_range_eq_some];exact⟨hp,by simpa using hi,fun j hj=>by simp only[h j hj,Bool.not_false]⟩
 unfold C3c;rw[this]
theorem C8i {p:Int→Bool}{l:List Int}(h: ∀j,j<l.length→p (l.getD j 0)=false):C3c p l= -1:=by
 have:(List.range l.length).find? (fun i=>p (l.getD i 0))=none:=by rw[List.find?_range_eq_none];exact fun j hj=>by simp only[h j hj,Bool.not_false]
 unfold C3c;rw[this]
theorem D91(p:Int→Bool)(l:List Int):decide (0≤C3c p l)=l.any p:=by
 cases h:l.any p with
 |true=>
  rw[List.any_eq_true]at h;obtain⟨x,hx,hp⟩:=h;obtain⟨k,hk,rfl⟩:=List.getElem_of_mem hx;unfold C3c;cases hf:(List.range l.length).find? (fun i=>p (l.getD i 0))with
  |none=>rw[List.find?_range_eq_none]at hf;have:=hf k hk;simp[List.getD,hk,hp]at this
  |some i=>simp
 |false=>rw[List.any_eq_false]at h;rw[C8i fun j hj=>by simpa using h _ (D6 0 hj)];decide
theorem B4h(l:List Int)(f:FuncId)(first cap:List AV)(O:List (Nat×A8))(p:Int→Bool)(hl:l.length≤1000000000)(hO:okO O)
  (hids: ∀i∈(AV.fn (.func f) first cap).ids,(ofL O i).isSome)
  (hp: ∀x∈l,A5 Tryz.prog f (first++ [.sc (.int .i64 x)]++cap) O (.sc (.bool (p x))) O):
  A5 Tryz.prog B3u [B4 1 K4 0 l, .fn (.func f) first cap] O (.sc (.int .i64 (C3c p l))) O:=by
 have hren:(AV.fn (.func f) first cap).ren id= .fn (.func f) first cap:=AV.ren_id _
 have hargs: ∀x:Int,∀a∈first++ [.sc (.int .i64 x)]++cap,∀i∈a.ids,(ofL O i).isSome:=fun x a ha i hi=>by
  simp only[List.mem_append,List.mem_singleton]at ha;refine hids i ?_;simp only[AV.ids,List.mem_append];rcases ha with(ha |rfl) |ha
  ·obtain⟨k,hk⟩:=List.getElem?_of_mem ha;exact .inl (K8 hk i hi)
  ·simp[AV.ids]at hi
  ·obtain⟨k,hk⟩:=List.getElem?_of_mem ha;exact .inr (K8 hk i hi)
 refine R8 hm A1 Tryz.func186 rfl rfl ?_;simp only[go_sem];refine C6 hm (ι:= {i:Nat // i≤l.length∧ ∀j,j<i→p (l.getD j 0)=false}) (fun i=> [(0, .share,B4 1 K4 0 l),(1, .share, .fn (.func f) first cap),(7, .share, .sc (.int .i64 l.length)),(8, .share, .sc (.int .i64 i.1))])
  (fun i=>O) (fun i=>l.length-i.1) ⟨0,by omega,fun j hj=>by omega⟩ ?_ ?_
 ·refine R9 hO rfl ?_;simp only[go_sem];exact⟨by rw[J1,J1],fun i hi=>hids i hi⟩
 ·rintro⟨i,hi,hs⟩;simp only[go_sem];split
  ·rename_i hlt;have hlt:i<l.length:=by omega
   refine⟨ok_,?_⟩;have hx:A5 Tryz.prog f (first++ .sc (.int .i64 (l.getD i 0))::cap) O (.sc (.bool (p (l.getD i 0)))) O:=by have:=hp (l.getD i 0) (D6 0 hlt);rwa[List.append_assoc]at this
   refine V1 hx hO rfl (fun a ha=>hargs (l.getD i 0) a (by rw[List.append_assoc];exact ha)) rfl ?_;simp only[go_sem];cases hpx:p (l.getD i 0)with
   |true=>rw[if_pos rfl];refine O9 [.share] rfl rfl hO (S1 hO) ?_;simp only[go_sem];exact(E3c hlt hs hpx).symm
   |false=>rw[if_neg (by simp)];refine B8 ⟨i+1,by omega,fun j hj=>by rcases Nat.lt_succ_iff_lt_or_eq.1 hj with h |rfl;exact hs j h;exact hpx⟩ (by show l.length-(i+1)<l.length-i;omega) (R9 hO (S1 hO) ?_);simp only[go_sem];exact⟨by rw[J1,J1],fun i hi=>hids i hi,(by rw[IntKind.wrap_i64];omega)⟩
  ·rename_i hge;refine O9 [.share] rfl rfl hO rfl ?_;simp only[go_sem];exact(C8i fun j hj=>hs j (by omega)).symm
theorem B0x(l:List Int)(f:FuncId)(first cap:List AV)(O:List (Nat×A8))(p:Int→Bool)(hl:l.length≤1000000000)(hO:okO O)
  (hids: ∀i∈(AV.fn (.func f) first cap).ids,(ofL O i).isSome)
  (hp: ∀x∈l,A5 Tryz.prog f (first++ [.sc (.int .i64 x)]++cap) O (.sc (.bool (p x))) O):
  A5 Tryz.prog B03 [B4 1 K4 0 l, .fn (.func f) first cap] O (.sc (.bool (l.any p))) O:=by
 refine R8 hm A1 Tryz.func309 rfl rfl ?_;simp only[go_sem];refine V1 (B4h l f first cap O p hl hO hids hp) hO rfl ?_ rfl ?_
 ·intro a ha;simp only[List.mem_cons,List.not_mem_nil,or_false]at ha;rcases ha with rfl |rfl
  ·intro i hi;simp[AV.ids]at hi
  ·exact hids
 ·simp only[go_sem];refine O9 [.share] rfl rfl hO (S1 hO) ?_;simp only[go_sem];exact D91 p l
end Go.Abs
end
section
namespace Go.Abs
open Go.Proofs
open Api
theorem B1k {P:Program}{m:Nat→Option A8}{f:FuncId}{avs:List AV}{b:Bool}{Q:ContR}{O:List (Nat×A8)}{r:AV}(hc:A5 P f avs O r O)(h:okO O)(hm: ∀p∈O,m p.1=some p.2)
  (ha: ∀a∈avs,∀i∈a.ids,(ofL O i).isSome)(hb:b=true)(hK: @Ri Q b ⟨some r,O⟩): @A4w P m f avs b Q:=by
 rw[←C1b O]at hK;refine⟨⟨some r,A3b id O⟩,fun _=> ?_,fun _=>hb,hK⟩;have:=O0.mk (P:=P) (m:=m) (avs.map fun _=>true) avs O r O id [] false hc (A89 ha)
  (fun i o hi=>by rw[B3r];exact hm _ (A00 h.1 hi))
  (fun i cs hi j hj=>h.2 _ (A00 h.1 hi) cs rfl j hj) (fun i hi=>hi) (fun i hi=> .inl hi) (by simpa using h.1) (fun e=>by cases e)
 simpa[AV.ren_id]using this
end Go.Abs
end
section
namespace Go.Abs
open Go.Proofs
open Api
def inR(x lo hi:Int):Bool:=decide (lo≤x∧x≤hi)
theorem B7f(x lo hi:Int):A5 Tryz.prog D66 [.sc (.int .i64 x), .sc (.int .i64 lo), .sc (.int .i64 hi)] [] (.sc (.bool (inR x lo hi))) []:=by
 refine en1 hm A1 Tryz.func57 rfl rfl ?_;simp only[go_sem];by_cases h:lo≤x
 ·simp only[h,if_true,inR,true_and]
 ·simp only[h,if_false,inR,false_and,decide_false]
theorem B0k(x lo hi:Int):A5 Tryz.prog C9g [.sc (.int .i64 x), .sc (.int .i64 lo), .sc (.int .i64 hi)] [] (.sc (.bool (inR x lo hi))) []:=by
 refine en1 hm A1 Tryz.func328 rfl rfl ?_;simp only[go_sem];by_cases h:lo≤x
 ·simp only[h,if_true,inR,true_and]
 ·simp only[h,if_false,inR,false_and,decide_false]
theorem F1(x lo hi:Int):A5 Tryz.prog C4w [.sc (.int .i64 x), .sc (.int .i64 lo), .sc (.int .i64 hi)] [] (.sc (.bool (inR x lo hi))) []:=by
 refine en1 hm A1 Tryz.func331 rfl rfl ?_;simp only[go_sem];by_cases h:lo≤x
 ·simp only[h,if_true,inR,true_and]
 ·simp only[h,if_false,inR,false_and,decide_false]
theorem B7d(x lo hi:Int):A5 Tryz.prog E0h [.sc (.int .i64 x), .sc (.int .i64 lo), .sc (.int .i64 hi)] [] (.sc (.bool (inR x lo hi))) []:=by
 refine en1 hm A1 Tryz.func24 rfl rfl ?_;simp only[go_sem];by_cases h:lo≤x
 ·simp only[h,if_true,inR,true_and]
 ·simp only[h,if_false,inR,false_and,decide_false]
theorem D2g(x lo hi:Int):A5 Tryz.prog E05 [.sc (.int .i64 x), .sc (.int .i64 lo), .sc (.int .i64 hi)] [] (.sc (.bool (inR x lo hi))) []:=by
 refine en1 hm A1 Tryz.func206 rfl rfl ?_;simp only[go_sem];by_cases h:lo≤x
 ·simp only[h,if_true,inR,true_and]
 ·simp only[h,if_false,inR,false_and,decide_false]
theorem K2(x lo hi:Int):A5 Tryz.prog C87 [.sc (.int .i64 x), .sc (.int .i64 lo), .sc (.int .i64 hi)] [] (.sc (.bool (inR x lo hi))) []:=by
 refine en1 hm A1 Tryz.func107 rfl rfl ?_;simp only[go_sem];by_cases h:lo≤x
 ·simp only[h,if_true,inR,true_and]
 ·simp only[h,if_false,inR,false_and,decide_false]
theorem D11(x m:Int)(h0:0≤m)(h1:m<9223372036854775807):A5 Tryz.prog D3b [.sc (.int .i64 x), .sc (.int .i64 m)] [] (.sc (.bool (inR x (-m) m))) []:=by
 refine en1 hm A1 Tryz.func320 rfl rfl ?_;simp only[go_sem];have e:IntKind.i64.wrap (0-m)= -m:=by rw[IntKind.wrap_i64];omega
 rw[e];by_cases h: -m≤x
 ·simp only[h,if_true,inR,true_and]
 ·simp only[h,if_false,inR,false_and,decide_false]
theorem A6u(a b:Int):A5 Tryz.prog D4j [.sc (.int .i64 a), .sc (.int .i64 b)] [] (.sc (.int .i64 (sat (sat a-sat b)))) []:=by refine en1 hm A1 Tryz.func243 rfl rfl ?_;simp only[go_sem];refine A0 (H5 a) rfl ?_;simp only[go_sem];refine A0 (H5 b) rfl ?_;simp only[go_sem];refine A0 (H5 _) rfl ?_;simp only[go_sem];have:=T1 a;have:=T1 b;rw[show IntKind.i64.wrap (sat a-sat b)=sat a-sat b by rw[IntKind.wrap_i64];omega]
theorem C8g(a b:Int):A5 Tryz.prog D9o [.sc (.int .i64 a), .sc (.int .i64 b)] [] (.sc (.int .i64 (sat (sat a-sat b)))) []:=by refine en1 hm A1 Tryz.func421 rfl rfl ?_;simp only[go_sem];refine A0 (A30 a) rfl ?_;simp only[go_sem];refine A0 (A30 b) rfl ?_;simp only[go_sem];refine A0 (A30 _) rfl ?_;simp only[go_sem];have:=T1 a;have:=T1 b;rw[show IntKind.i64.wrap (sat a-sat b)=sat a-sat b by rw[IntKind.wrap_i64];omega]
def J8(a b:Vec):Vec:=⟨sat (sat a.X-sat b.X),sat (sat a.Y-sat b.Y)⟩
theorem N4(a b:Vec):A5 Tryz.prog D5x [.agg a.enc, .agg b.enc] [] (.agg (J8 a b).enc) []:=by refine P7 16 [(4,some (some 2))] hm A1 Tryz.func135 rfl ?_;simp only[go_sem];refine A0 (A6u a.X b.X) rfl ?_;simp only[go_sem];refine A0 (A6u a.Y b.Y) rfl ?_;simp only[J8,go_sem]
theorem C8h(a b:Vec):A5 Tryz.prog D8m [.agg a.enc, .agg b.enc] [] (.agg (J8 a b).enc) []:=by refine P7 16 [(4,some (some 2))] hm A1 Tryz.func321 rfl ?_;simp only[go_sem];refine A0 (C8g a.X b.X) rfl ?_;simp only[go_sem];refine A0 (C8g a.Y b.Y) rfl ?_;simp only[J8,go_sem]
theorem D46 {x y m n:Int}(h1: -m≤x)(h2:x≤m)(h3: -n≤y)(h4:y≤n): -(m*n)≤x*y∧x*y≤m*n:=by
 have hm:0≤m:=by omega
 have hn:0≤n:=by omega
 rcases Int.le_total 0 x with hx |hx <;> rcases Int.le_total 0 y with hy |hy
 ·have a:=Int.mul_le_mul h2 h4 hy hm;have b:=Int.mul_nonneg hx hy;omega
 ·have a:=Int.mul_le_mul h2 (show -y≤n by omega) (by omega) hm;have b:=Int.mul_nonneg hx (show 0≤ -y by omega);rw[Int.mul_neg]at a b;omega
 ·have a:=Int.mul_le_mul (show -x≤m by omega) h4 hy hm;have b:=Int.mul_nonneg (show 0≤ -x by omega) hy;rw[Int.neg_mul]at a b;omega
 ·have a:=Int.mul_le_mul (show -x≤m by omega) (show -y≤n by omega) (by omega) hm;have b:=Int.mul_nonneg (show 0≤ -x by omega) (show 0≤ -y by omega);rw[Int.neg_mul_neg]at a b;omega
def crs(a b c:Vec):Int:=(sat b.X-sat a.X)*(sat c.Y-sat a.Y)-(sat b.Y-sat a.Y)*(sat c.X-sat a.X)
def ori(a b c:Vec):Int:=if 0<crs a b c then 1 else if crs a b c<0 then -1 else 0
theorem D1i(a b c:Vec):IntKind.i64.wrap (IntKind.i64.wrap (IntKind.i64.wrap (sat b.X-sat a.X)*IntKind.i64.wrap (sat c.Y-sat a.Y))-IntKind.i64.wrap (IntKind.i64.wrap (sat b.Y-sat a.Y)*IntKind.i64.wrap (sat c.X-sat a.X)))=crs a b c:=by
 have h1:=T1 a.X;have h2:=T1 a.Y;have h3:=T1 b.X;have h4:=T1 b.Y;have h5:=T1 c.X;have h6:=T1 c.Y
 have w: ∀x y,-536870911≤x∧x≤536870911→ -536870911≤y∧y≤536870911→IntKind.i64.wrap (x-y)=x-y:=fun x y _ _=>by rw[IntKind.wrap_i64];omega
 rw[w _ _ h3 h1,w _ _ h6 h2,w _ _ h4 h2,w _ _ h5 h1];have p1:=D46 (x:=sat b.X-sat a.X) (y:=sat c.Y-sat a.Y) (m:=1073741822) (n:=1073741822) (by omega) (by omega) (by omega) (by omega)
 have p2:=D46 (x:=sat b.Y-sat a.Y) (y:=sat c.X-sat a.X) (m:=1073741822) (n:=1073741822) (by omega) (by omega) (by omega) (by omega);unfold crs;generalize(sat b.X-sat a.X)*(sat c.Y-sat a.Y)=p at*;generalize(sat b.Y-sat a.Y)*(sat c.X-sat a.X)=q at*;simp only[IntKind.wrap_i64];omega
theorem Z1(a b c:Vec):A5 Tryz.prog B9u [.agg a.enc, .agg b.enc, .agg c.enc] [] (.sc (.int .i64 (ori a b c))) []:=by
 refine en1 hm A1 Tryz.func137 rfl rfl ?_;simp only[go_sem];refine A0 (T9 a) rfl ?_;simp only[go_sem];refine A0 (T9 b) rfl ?_;simp only[go_sem];refine A0 (T9 c) rfl ?_;simp only[A77,D1i,go_sem];unfold ori
 (repeat' split) <;> omega
theorem C1v(a b c:Vec):A5 Tryz.prog C18 [.agg a.enc, .agg b.enc, .agg c.enc] [] (.sc (.int .i64 (ori a b c))) []:=by
 refine en1 hm A1 Tryz.func423 rfl rfl ?_;simp only[go_sem];refine A0 (A47 a) rfl ?_;simp only[go_sem];refine A0 (A47 b) rfl ?_;simp only[go_sem];refine A0 (A47 c) rfl ?_;simp only[A77,D1i,go_sem];unfold ori
 (repeat' split) <;> omega
def A3y(v:Vec):Bool:=decide (-1048576≤v.X∧v.X≤1048576∧ -1048576≤v.Y∧v.Y≤1048576)
theorem C16(v:Vec):A5 Tryz.prog C1p [.agg v.enc] [] (.sc (.bool (A3y v))) []:=by
 refine en1 hm A1 Tryz.func470 rfl rfl ?_;simp only[go_sem];unfold A3y;rw[Bool.eq_iff_iff]
 (repeat' split) <;> simp_all <;> omega
theorem C89(v:Vec):A5 Tryz.prog C9k [.agg v.enc] [] (.sc (.bool (A3y v))) []:=by
 refine en1 hm A1 Tryz.func422 rfl rfl ?_;simp only[go_sem];unfold A3y;rw[Bool.eq_iff_iff]
 (repeat' split) <;> simp_all <;> omega
def Y1(n d:Int):Int:=if d<1∨d>4611686018427387904∨n < -4611686018427387904∨n>4611686018427387904 then 0 else
 if n.tmod d≥d-n.tmod d then n.tdiv d+1 else if -(n.tmod d)≥d+n.tmod d then n.tdiv d-1 else n.tdiv d
theorem D02 {n d:Int}(h1:1≤d)(h2: -4611686018427387904≤n)(h3:n≤4611686018427387904): -4611686018427387904≤n.tdiv d∧n.tdiv d≤4611686018427387904∧ -d<n.tmod d∧n.tmod d<d:=by
 have a:=Int.tmod_lt_of_pos n (show 0<d by omega)
 have b:=Int.lt_tmod_of_pos n (show 0<d by omega)
 have e:=Int.mul_tdiv_add_tmod n d
 have hd:(n.tdiv d).natAbs≤n.natAbs:=by rw[Int.natAbs_tdiv];exact Nat.div_le_self _ _
 omega
theorem M2(n d:Int):A5 Tryz.prog C38 [.sc (.int .i64 n), .sc (.int .i64 d)] [] (.sc (.int .i64 (Y1 n d))) []:=by
 refine en1 hm A1 Tryz.func389 rfl rfl ?_;simp only[go_sem];unfold Y1;by_cases hc:d<1∨d>4611686018427387904∨n < -4611686018427387904∨n>4611686018427387904
 ·rw[if_pos hc,if_pos (by(repeat' split) <;> simp <;> omega)]
 ·rw[if_neg hc,if_neg (by(repeat' split) <;> simp <;> omega)];obtain⟨h1,h2,h3,h4⟩:=D02 (n:=n) (d:=d) (by omega) (by omega) (by omega);have e1:IntKind.i64.wrap (n.tdiv d)=n.tdiv d:=by rw[IntKind.wrap_i64];omega
  rw[e1];have e2:IntKind.i64.wrap (d-n.tmod d)=d-n.tmod d:=by rw[IntKind.wrap_i64];omega
  have e3:IntKind.i64.wrap (d+n.tmod d)=d+n.tmod d:=by rw[IntKind.wrap_i64];omega
  have e4:IntKind.i64.wrap (0-n.tmod d)= -n.tmod d:=by rw[IntKind.wrap_i64];omega
  rw[e2,e3,e4];refine⟨by omega,by omega,?_⟩;split
  ·rw[IntKind.wrap_i64];omega
  ·split
   ·rw[IntKind.wrap_i64];omega
   ·rfl
theorem D8u {n d:Int}(h1:1≤d)(h2:d≤4611686018427387904)(h3: -4611686018427387904≤n)(h4:n≤4611686018427387904):
  Y1 n d=if n.tmod d≥d-n.tmod d then n.tdiv d+1 else if -(n.tmod d)≥d+n.tmod d then n.tdiv d-1 else n.tdiv d:=if_neg (by omega)
theorem E0s {n d q r:Int}(h1:1≤d)(h2:d≤4611686018427387904)(h3: -4611686018427387904≤n)(h4:n≤4611686018427387904)(hq:q=(if n<0 then -n else n).tdiv d)(hr:r=(if n<0 then -n else n).tmod d):
  (if n<0 then -(if r≥d-r then q+1 else q)else(if r≥d-r then q+1 else q))=Y1 n d:=by
 rw[D8u h1 h2 h3 h4];by_cases h:n<0
 ·rw[if_pos h]at hq hr⊢;rw[Int.neg_tdiv]at hq;rw[Int.neg_tmod]at hr;have hs:n.tmod d≤0:=by
   have:=Int.tmod_nonneg d (show 0≤ -n by omega);rw[Int.neg_tmod]at this;omega
  rw[if_neg (c:=n.tmod d≥d-n.tmod d) (by omega)];subst hq;subst hr;split <;> split <;> omega
 ·rw[if_neg h]at hq hr⊢;have hs:=Int.tmod_nonneg d (show 0≤n by omega);subst hq;subst hr;rw[if_neg (c:= -n.tmod d≥d+n.tmod d) (by omega)]
theorem E6p {m d:Int}:m-m.tdiv d*d=m.tmod d:=by have:=Int.mul_tdiv_add_tmod m d;rw[Int.mul_comm]at this;omega
theorem B4n(n d:Int):A5 Tryz.prog C7a [.sc (.int .i64 n), .sc (.int .i64 d)] [] (.sc (.int .i64 (Y1 n d))) []:=by
 refine en1 hm A1 Tryz.func425 rfl rfl ?_;simp only[go_sem];refine A0 (A63 d) rfl ?_;simp only[go_sem];refine A0 (A63 n) rfl ?_;simp only[go_sem];by_cases hc:d<1∨d>4611686018427387904∨n < -4611686018427387904∨n>4611686018427387904
 ·rw[if_pos (by(repeat' split) <;> simp <;> omega)];unfold Y1;rw[if_pos hc]
 ·rw[if_neg (by(repeat' split) <;> simp <;> omega)];have hg:=fun q r=>E0s (n:=n) (d:=d) (q:=q) (r:=r) (by omega) (by omega) (by omega) (by omega)
  have key: ∀m:Int,0≤m→m≤4611686018427387904→IntKind.i64.wrap (m.tdiv d)=m.tdiv d∧IntKind.i64.wrap (m-IntKind.i64.wrap (m.tdiv d*d))=m.tmod d∧IntKind.i64.wrap (d-m.tmod d)=d-m.tmod d∧IntKind.i64.wrap (m.tdiv d+1)=m.tdiv d+1∧
    IntKind.i64.wrap (0-(m.tdiv d+1))= -(m.tdiv d+1)∧IntKind.i64.wrap (0-m.tdiv d)= -m.tdiv d:=fun m h0 h1=>by
   obtain⟨a1,a2,a3,a4⟩:=D02 (n:=m) (d:=d) (by omega) (by omega) (by omega);have e:m-m.tdiv d*d=m.tmod d:=E6p
   have e2:IntKind.i64.wrap (m.tdiv d*d)=m.tdiv d*d:=by have:=Int.tmod_nonneg d h0;generalize m.tdiv d*d=z at*;rw[IntKind.wrap_i64];omega
   rw[e2,e];simp only[IntKind.wrap_i64];refine⟨?_,?_,?_,?_,?_,?_⟩ <;> omega
  by_cases hn:n<0
  ·have hm:IntKind.i64.wrap (0-n)= -n:=by rw[IntKind.wrap_i64];omega
   obtain⟨k1,k2,k3,k4,k5,k6⟩:=key (-n) (by omega) (by omega);have h:=hg _ _ rfl rfl;simp only[hn,if_true]at h⊢;rw[←h];simp only[hm,k1,k2,k3,k4,k5,k6];refine⟨by omega,?_⟩;split <;> rfl
  ·obtain⟨k1,k2,k3,k4,k5,k6⟩:=key n (by omega) (by omega);have h:=hg _ _ rfl rfl;simp only[hn,if_false]at h⊢;rw[←h];simp only[k1,k2,k3,k4];refine⟨by omega,?_⟩;split <;> rfl
end Go.Abs
end
section
namespace Go.Abs
open Go.Proofs
open Api
def D9n(w:Api.World)(x:A6o)(n:Nat):List AV:= [.sc (.int .i64 w.Settings.TimeStep), .sc (.int .i64 w.Settings.Gravity.X), .sc (.int .i64 w.Settings.Gravity.Y), .sc (.int .i64 w.Settings.Iterations), .sc (.int .i64 w.Settings.SleepSteps),
 .sl 1 0 w.Bodies.length w.Bodies.length, .sl 2 0 w.Joints.length w.Joints.length, .sl 3 0 w.Contacts.length w.Contacts.length, .sl 4 0 w.Overlaps.length w.Overlaps.length, .sc (.int .i64 w.NextID), .sc (.int .i64 w.Frame),
 B4 1 K4 0 x.Bodies,B4 1 K4 0 x.Contacts,B4 1 K4 0 x.Joints, .sl 5 0 n n]
def E65(w:Api.World)(x:A6o)(l:List Int):List (Nat×A8):=(6, .box (D9n w x l.length))::(5, .arr 1 (D2 K4 0 l))::A5p w 1 2 3 4
attribute [go_sem] D9n E65
def F9w(w:Api.World)(x:A6o)(l:List Int)(f:FuncId):List (Nat×A8):=(48, .box [.ptr 6 0 0 1])::(64, .box [.fn (.func f) [.ptr 6 0 0 1] []])::E65 w x l
attribute [go_sem] F9w
end Go.Abs
end
section
namespace Go.Abs
open Go.Proofs
open Api
def A2p {α:Type}(d:α)(p:α→Bool)(l:List α):Int:=match(List.range l.length).find? (fun i=>p (l.getD i d))with |some i=>i |none=> -1
theorem A3z {α:Type}{d:α}{p:α→Bool}{l:List α}{i:Nat}(hi:i<l.length)(h: ∀j,j<i→p (l.getD j d)=false)(hp:p (l.getD i d)=true):A2p d p l=i:=by
 have:(List.range l.length).find? (fun i=>p (l.getD i d))=some i:=by rw[List.find?_range_eq_some];exact⟨hp,by simpa using hi,fun j hj=>by simp only[h j hj,Bool.not_false]⟩
 unfold A2p;rw[this]
theorem A0o {α:Type}{d:α}{p:α→Bool}{l:List α}(h: ∀j,j<l.length→p (l.getD j d)=false):A2p d p l= -1:=by
 have:(List.range l.length).find? (fun i=>p (l.getD i d))=none:=by rw[List.find?_range_eq_none];exact fun j hj=>by simp only[h j hj,Bool.not_false]
 unfold A2p;rw[this]
theorem C7f {α:Type}{d:α}{p:α→Bool}{l:List α}: -1≤A2p d p l∧(A2p d p l)<l.length:=by
 unfold A2p;cases hf:(List.range l.length).find? (fun i=>p (l.getD i d))with
 |none=>simp;omega
 |some i=>have:=List.mem_of_find?_eq_some hf;rw[List.mem_range]at this;simp;omega
theorem B2p(l:List Body)(f:FuncId)(first cap:List AV)(O:List (Nat×A8))(p:Body→Bool)(hl:l.length≤1048576)(hO:okO O)
  (hids: ∀i∈(AV.fn (.func f) first cap).ids,(ofL O i).isSome)
  (hp: ∀x∈l,A5 Tryz.prog f (first++ [.agg x.enc]++cap) O (.sc (.bool (p x))) O):
  A5 Tryz.prog B2s [B4 20 Body.enc default l, .fn (.func f) first cap] O (.sc (.int .i64 (A2p default p l))) O:=by
 have hren:(AV.fn (.func f) first cap).ren id= .fn (.func f) first cap:=AV.ren_id _
 have hargs: ∀x:Body,∀a∈first++ [.agg x.enc]++cap,∀i∈a.ids,(ofL O i).isSome:=fun x a ha i hi=>by
  simp only[List.mem_append,List.mem_singleton]at ha;refine hids i ?_;simp only[AV.ids,List.mem_append];rcases ha with(ha |rfl) |ha
  ·obtain⟨k,hk⟩:=List.getElem?_of_mem ha;exact .inl (K8 hk i hi)
  ·simp[AV.ids,go_sem]at hi
  ·obtain⟨k,hk⟩:=List.getElem?_of_mem ha;exact .inr (K8 hk i hi)
 refine R8 hm A1 Tryz.func219 rfl rfl ?_;simp only[go_sem];refine C6 hm (ι:= {i:Nat // i≤l.length∧ ∀j,j<i→p (l.getD j default)=false}) (fun i=> [(0, .share,B4 20 Body.enc default l),(1, .share, .fn (.func f) first cap),(7, .share, .sc (.int .i64 l.length)),(8, .share, .sc (.int .i64 i.1))])
  (fun i=>O) (fun i=>l.length-i.1) ⟨0,by omega,fun j hj=>by omega⟩ ?_ ?_
 ·refine R9 hO rfl ?_;simp only[go_sem];exact⟨by rw[J1,J1],fun i hi=>hids i hi⟩
 ·rintro⟨i,hi,hs⟩;simp only[go_sem];split
  ·rename_i hlt;have hlt:i<l.length:=by omega
   refine⟨ok_,?_⟩;have hx:A5 Tryz.prog f (first++ .agg (l.getD i default).enc::cap) O (.sc (.bool (p (l.getD i default)))) O:=by have:=hp (l.getD i default) (D6 default hlt);rwa[List.append_assoc]at this
   refine V1 hx hO rfl (fun a ha=>hargs (l.getD i default) a (by rw[List.append_assoc];exact ha)) rfl ?_;simp only[go_sem];cases hpx:p (l.getD i default)with
   |true=>rw[if_pos rfl];refine O9 [.share] rfl rfl hO (S1 hO) ?_;simp only[go_sem];exact(A3z hlt hs hpx).symm
   |false=>rw[if_neg (by simp)];refine B8 ⟨i+1,by omega,fun j hj=>by rcases Nat.lt_succ_iff_lt_or_eq.1 hj with h |rfl;exact hs j h;exact hpx⟩ (by show l.length-(i+1)<l.length-i;omega) (R9 hO (S1 hO) ?_);simp only[go_sem];exact⟨by rw[J1,J1],fun i hi=>hids i hi,(by rw[IntKind.wrap_i64];omega)⟩
  ·rename_i hge;refine O9 [.share] rfl rfl hO rfl ?_;simp only[go_sem];exact(A0o fun j hj=>hs j (by omega)).symm
def Q7(w:Api.World)(id:Int):Int:=A2p default (fun b:Body=>b.ID==id) w.Bodies
theorem D8f(id:Int):okO [(1, .box [.sc (.int .i64 id)])]:=by refine⟨by simp[go_sem],?_⟩;simp[go_sem,C9,AV.ids]
theorem B8k(id:Int)(b:Body):A5 Tryz.prog A8u [.agg b.enc, .ptr 1 0 0 1] [(1, .box [.sc (.int .i64 id)])] (.sc (.bool (b.ID==id))) [(1, .box [.sc (.int .i64 id)])]:=by refine R8 hm A1 Tryz.func220 rfl rfl ?_;simp only[go_sem];refine E3 [.share] [] [] rfl rfl (by simp[go_sem]) (by simp[A9,go_sem]) (by simp[go_sem]) ?_;simp only[go_sem]
theorem U6(w:Api.World)(id:Int)(hw:w.Bodies.length≤1048576):A5 Tryz.prog C3v [.agg w.enc, .sc (.int .i64 id)] [] (.sc (.int .i64 (Q7 w id))) []:=by refine R8 hm A1 Tryz.func115 rfl rfl ?_;simp only[go_sem];refine I4 [true,true] [(1,64)] (B2p w.Bodies A8u [] [.ptr 1 0 0 1] [(1, .box [.sc (.int .i64 id)])] (fun b=>b.ID==id) hw (D8f id) (by simp[go_sem,AV.ids]) (fun b _=>B8k id b)) (by simp) (by simp) (by simp) (by simp[go_sem]) ?_;simp only[go_sem];refine E3 [.share] [] [] rfl rfl (by simp[go_sem]) (by simp[A9,go_sem]) (by simp[go_sem]) ?_;simp only[go_sem];rfl
end Go.Abs
end
section
namespace Go.Abs
open Go.Proofs
open Api
attribute [go_sem] Option.toList_none Option.toList_some
theorem B54 {α:Type}{d:α}(p:α→Bool)(l:List α):decide (0≤A2p d p l)=l.any p:=by
 cases h:l.any p with
 |true=>
  rw[List.any_eq_true]at h;obtain⟨x,hx,hp⟩:=h;obtain⟨k,hk,rfl⟩:=List.getElem_of_mem hx;unfold A2p;cases hf:(List.range l.length).find? (fun i=>p (l.getD i d))with
  |none=>rw[List.find?_range_eq_none]at hf;have:=hf k hk;simp[List.getD,hk,hp]at this
  |some i=>simp
 |false=>rw[List.any_eq_false]at h;rw[A0o fun j hj=>by simpa using h _ (D6 d hj)];decide
theorem B3p(l:List Vec)(f:FuncId)(first cap:List AV)(O:List (Nat×A8))(p:Vec→Bool)(hl:l.length≤4194304)(hO:okO O)
  (hids: ∀i∈(AV.fn (.func f) first cap).ids,(ofL O i).isSome)
  (hp: ∀x∈l,A5 Tryz.prog f (first++ [.agg x.enc]++cap) O (.sc (.bool (p x))) O):
  A5 Tryz.prog B4b [B4 2 Vec.enc default l, .fn (.func f) first cap] O (.sc (.int .i64 (A2p default p l))) O:=by
 have hren:(AV.fn (.func f) first cap).ren id= .fn (.func f) first cap:=AV.ren_id _
 have hargs: ∀x:Vec,∀a∈first++ [.agg x.enc]++cap,∀i∈a.ids,(ofL O i).isSome:=fun x a ha i hi=>by
  simp only[List.mem_append,List.mem_singleton]at ha;refine hids i ?_;simp only[AV.ids,List.mem_append];rcases ha with(ha |rfl) |ha
  ·obtain⟨k,hk⟩:=List.getElem?_of_mem ha;exact .inl (K8 hk i hi)
  ·simp[AV.ids,go_sem]at hi
  ·obtain⟨k,hk⟩:=List.getElem?_of_mem ha;exact .inr (K8 hk i hi)
 refine R8 hm A1 Tryz.func435 rfl rfl ?_;simp only[go_sem];refine C6 hm (ι:= {i:Nat // i≤l.length∧ ∀j,j<i→p (l.getD j default)=false}) (fun i=> [(0, .share,B4 2 Vec.enc default l),(1, .share, .fn (.func f) first cap),(7, .share, .sc (.int .i64 l.length)),(8, .share, .sc (.int .i64 i.1))])
  (fun i=>O) (fun i=>l.length-i.1) ⟨0,by omega,fun j hj=>by omega⟩ ?_ ?_
 ·refine R9 hO rfl ?_;simp only[go_sem];exact⟨by rw[J1,J1],fun i hi=>hids i hi⟩
 ·rintro⟨i,hi,hs⟩;simp only[go_sem];split
  ·rename_i hlt;have hlt:i<l.length:=by omega
   refine⟨ok_,?_⟩;have hx:A5 Tryz.prog f (first++ .agg (l.getD i default).enc::cap) O (.sc (.bool (p (l.getD i default)))) O:=by have:=hp (l.getD i default) (D6 default hlt);rwa[List.append_assoc]at this
   refine V1 hx hO rfl (fun a ha=>hargs (l.getD i default) a (by rw[List.append_assoc];exact ha)) rfl ?_;simp only[go_sem];cases hpx:p (l.getD i default)with
   |true=>rw[if_pos rfl];refine O9 [.share] rfl rfl hO (S1 hO) ?_;simp only[go_sem];exact(A3z hlt hs hpx).symm
   |false=>rw[if_neg (by simp)];refine B8 ⟨i+1,by omega,fun j hj=>by rcases Nat.lt_succ_iff_lt_or_eq.1 hj with h |rfl;exact hs j h;exact hpx⟩ (by show l.length-(i+1)<l.length-i;omega) (R9 hO (S1 hO) ?_);simp only[go_sem];exact⟨by rw[J1,J1],fun i hi=>hids i hi,(by rw[IntKind.wrap_i64];omega)⟩
  ·rename_i hge;refine O9 [.share] rfl rfl hO rfl ?_;simp only[go_sem];exact(A0o fun j hj=>hs j (by omega)).symm
theorem B02(l:List Vec)(f:FuncId)(first cap:List AV)(O:List (Nat×A8))(p:Vec→Bool)(hl:l.length≤4194304)(hO:okO O)
  (hids: ∀i∈(AV.fn (.func f) first cap).ids,(ofL O i).isSome)
  (hp: ∀x∈l,A5 Tryz.prog f (first++ [.agg x.enc]++cap) O (.sc (.bool (p x))) O):
  A5 Tryz.prog B1g [B4 2 Vec.enc default l, .fn (.func f) first cap] O (.sc (.bool (l.any p))) O:=by
 refine R8 hm A1 Tryz.func359 rfl rfl ?_;simp only[go_sem];refine V1 (B3p l f first cap O p hl hO hids hp) hO rfl ?_ rfl ?_
 ·intro a ha;simp only[List.mem_cons,List.not_mem_nil,or_false]at ha;rcases ha with rfl |rfl
  ·intro i hi;simp[AV.ids]at hi
  ·exact hids
 ·simp only[go_sem];refine O9 [.share] rfl rfl hO (S1 hO) ?_;simp only[go_sem];exact B54 p l
theorem A7s(l:List C4)(f:FuncId)(first cap:List AV)(O:List (Nat×A8))(p:C4→Bool)(hl:l.length≤4194304)(hO:okO O)
  (hids: ∀i∈(AV.fn (.func f) first cap).ids,(ofL O i).isSome)
  (hp: ∀x∈l,A5 Tryz.prog f (first++ [.agg x.enc]++cap) O (.sc (.bool (p x))) O):
  A5 Tryz.prog A7r [B4 6 C4.enc default l, .fn (.func f) first cap] O (.sc (.int .i64 (A2p default p l))) O:=by
 have hren:(AV.fn (.func f) first cap).ren id= .fn (.func f) first cap:=AV.ren_id _
 have hargs: ∀x:C4,∀a∈first++ [.agg x.enc]++cap,∀i∈a.ids,(ofL O i).isSome:=fun x a ha i hi=>by
  simp only[List.mem_append,List.mem_singleton]at ha;refine hids i ?_;simp only[AV.ids,List.mem_append];rcases ha with(ha |rfl) |ha
  ·obtain⟨k,hk⟩:=List.getElem?_of_mem ha;exact .inl (K8 hk i hi)
  ·simp[AV.ids,go_sem]at hi
  ·obtain⟨k,hk⟩:=List.getElem?_of_mem ha;exact .inr (K8 hk i hi)
 refine R8 hm A1 Tryz.func274 rfl rfl ?_;simp only[go_sem];refine C6 hm (ι:= {i:Nat // i≤l.length∧ ∀j,j<i→p (l.getD j default)=false}) (fun i=> [(0, .share,B4 6 C4.enc default l),(1, .share, .fn (.func f) first cap),(7, .share, .sc (.int .i64 l.length)),(8, .share, .sc (.int .i64 i.1))])
  (fun i=>O) (fun i=>l.length-i.1) ⟨0,by omega,fun j hj=>by omega⟩ ?_ ?_
 ·refine R9 hO rfl ?_;simp only[go_sem];exact⟨by rw[J1,J1],fun i hi=>hids i hi⟩
 ·rintro⟨i,hi,hs⟩;simp only[go_sem];split
  ·rename_i hlt;have hlt:i<l.length:=by omega
   refine⟨ok_,?_⟩;have hx:A5 Tryz.prog f (first++ .agg (l.getD i default).enc::cap) O (.sc (.bool (p (l.getD i default)))) O:=by have:=hp (l.getD i default) (D6 default hlt);rwa[List.append_assoc]at this
   refine V1 hx hO rfl (fun a ha=>hargs (l.getD i default) a (by rw[List.append_assoc];exact ha)) rfl ?_;simp only[go_sem];cases hpx:p (l.getD i default)with
   |true=>rw[if_pos rfl];refine O9 [.share] rfl rfl hO (S1 hO) ?_;simp only[go_sem];exact(A3z hlt hs hpx).symm
   |false=>rw[if_neg (by simp)];refine B8 ⟨i+1,by omega,fun j hj=>by rcases Nat.lt_succ_iff_lt_or_eq.1 hj with h |rfl;exact hs j h;exact hpx⟩ (by show l.length-(i+1)<l.length-i;omega) (R9 hO (S1 hO) ?_);simp only[go_sem];exact⟨by rw[J1,J1],fun i hi=>hids i hi,(by rw[IntKind.wrap_i64];omega)⟩
  ·rename_i hge;refine O9 [.share] rfl rfl hO rfl ?_;simp only[go_sem];exact(A0o fun j hj=>hs j (by omega)).symm
theorem A6d(l:List C4)(f:FuncId)(first cap:List AV)(O:List (Nat×A8))(p:C4→Bool)(hl:l.length≤4194304)(hO:okO O)
  (hids: ∀i∈(AV.fn (.func f) first cap).ids,(ofL O i).isSome)
  (hp: ∀x∈l,A5 Tryz.prog f (first++ [.agg x.enc]++cap) O (.sc (.bool (p x))) O):
  A5 Tryz.prog A6e [B4 6 C4.enc default l, .fn (.func f) first cap] O (.sc (.bool (l.any p))) O:=by
 refine R8 hm A1 Tryz.func222 rfl rfl ?_;simp only[go_sem];refine V1 (A7s l f first cap O p hl hO hids hp) hO rfl ?_ rfl ?_
 ·intro a ha;simp only[List.mem_cons,List.not_mem_nil,or_false]at ha;rcases ha with rfl |rfl
  ·intro i hi;simp[AV.ids]at hi
  ·exact hids
 ·simp only[go_sem];refine O9 [.share] rfl rfl hO (S1 hO) ?_;simp only[go_sem];exact B54 p l
theorem B0o(l:List B2)(f:FuncId)(first cap:List AV)(O:List (Nat×A8))(p:B2→Bool)(hl:l.length≤4194304)(hO:okO O)
  (hids: ∀i∈(AV.fn (.func f) first cap).ids,(ofL O i).isSome)
  (hp: ∀x∈l,A5 Tryz.prog f (first++ [.agg x.enc]++cap) O (.sc (.bool (p x))) O):
  A5 Tryz.prog A4u [B4 4 B2.enc default l, .fn (.func f) first cap] O (.sc (.int .i64 (A2p default p l))) O:=by
 have hren:(AV.fn (.func f) first cap).ren id= .fn (.func f) first cap:=AV.ren_id _
 have hargs: ∀x:B2,∀a∈first++ [.agg x.enc]++cap,∀i∈a.ids,(ofL O i).isSome:=fun x a ha i hi=>by
  simp only[List.mem_append,List.mem_singleton]at ha;refine hids i ?_;simp only[AV.ids,List.mem_append];rcases ha with(ha |rfl) |ha
  ·obtain⟨k,hk⟩:=List.getElem?_of_mem ha;exact .inl (K8 hk i hi)
  ·simp[AV.ids,go_sem]at hi
  ·obtain⟨k,hk⟩:=List.getElem?_of_mem ha;exact .inr (K8 hk i hi)
 refine R8 hm A1 Tryz.func226 rfl rfl ?_;simp only[go_sem];refine C6 hm (ι:= {i:Nat // i≤l.length∧ ∀j,j<i→p (l.getD j default)=false}) (fun i=> [(0, .share,B4 4 B2.enc default l),(1, .share, .fn (.func f) first cap),(7, .share, .sc (.int .i64 l.length)),(8, .share, .sc (.int .i64 i.1))])
  (fun i=>O) (fun i=>l.length-i.1) ⟨0,by omega,fun j hj=>by omega⟩ ?_ ?_
 ·refine R9 hO rfl ?_;simp only[go_sem];exact⟨by rw[J1,J1],fun i hi=>hids i hi⟩
 ·rintro⟨i,hi,hs⟩;simp only[go_sem];split
  ·rename_i hlt;have hlt:i<l.length:=by omega
   refine⟨ok_,?_⟩;have hx:A5 Tryz.prog f (first++ .agg (l.getD i default).enc::cap) O (.sc (.bool (p (l.getD i default)))) O:=by have:=hp (l.getD i default) (D6 default hlt);rwa[List.append_assoc]at this
   refine V1 hx hO rfl (fun a ha=>hargs (l.getD i default) a (by rw[List.append_assoc];exact ha)) rfl ?_;simp only[go_sem];cases hpx:p (l.getD i default)with
   |true=>rw[if_pos rfl];refine O9 [.share] rfl rfl hO (S1 hO) ?_;simp only[go_sem];exact(A3z hlt hs hpx).symm
   |false=>rw[if_neg (by simp)];refine B8 ⟨i+1,by omega,fun j hj=>by rcases Nat.lt_succ_iff_lt_or_eq.1 hj with h |rfl;exact hs j h;exact hpx⟩ (by show l.length-(i+1)<l.length-i;omega) (R9 hO (S1 hO) ?_);simp only[go_sem];exact⟨by rw[J1,J1],fun i hi=>hids i hi,(by rw[IntKind.wrap_i64];omega)⟩
  ·rename_i hge;refine O9 [.share] rfl rfl hO rfl ?_;simp only[go_sem];exact(A0o fun j hj=>hs j (by omega)).symm
theorem A8p(l:List B2)(f:FuncId)(first cap:List AV)(O:List (Nat×A8))(p:B2→Bool)(hl:l.length≤4194304)(hO:okO O)
  (hids: ∀i∈(AV.fn (.func f) first cap).ids,(ofL O i).isSome)
  (hp: ∀x∈l,A5 Tryz.prog f (first++ [.agg x.enc]++cap) O (.sc (.bool (p x))) O):
  A5 Tryz.prog A8r [B4 4 B2.enc default l, .fn (.func f) first cap] O (.sc (.bool (l.any p))) O:=by
 refine R8 hm A1 Tryz.func118 rfl rfl ?_;simp only[go_sem];refine V1 (B0o l f first cap O p hl hO hids hp) hO rfl ?_ rfl ?_
 ·intro a ha;simp only[List.mem_cons,List.not_mem_nil,or_false]at ha;rcases ha with rfl |rfl
  ·intro i hi;simp[AV.ids]at hi
  ·exact hids
 ·simp only[go_sem];refine O9 [.share] rfl rfl hO (S1 hO) ?_;simp only[go_sem];exact B54 p l
theorem B2i(l:List Joint)(f:FuncId)(first cap:List AV)(O:List (Nat×A8))(p:Joint→Bool)(hl:l.length≤4194304)(hO:okO O)
  (hids: ∀i∈(AV.fn (.func f) first cap).ids,(ofL O i).isSome)
  (hp: ∀x∈l,A5 Tryz.prog f (first++ [.agg x.enc]++cap) O (.sc (.bool (p x))) O):
  A5 Tryz.prog A5b [B4 24 Joint.enc default l, .fn (.func f) first cap] O (.sc (.int .i64 (A2p default p l))) O:=by
 have hren:(AV.fn (.func f) first cap).ren id= .fn (.func f) first cap:=AV.ren_id _
 have hargs: ∀x:Joint,∀a∈first++ [.agg x.enc]++cap,∀i∈a.ids,(ofL O i).isSome:=fun x a ha i hi=>by
  simp only[List.mem_append,List.mem_singleton]at ha;refine hids i ?_;simp only[AV.ids,List.mem_append];rcases ha with(ha |rfl) |ha
  ·obtain⟨k,hk⟩:=List.getElem?_of_mem ha;exact .inl (K8 hk i hi)
  ·simp[AV.ids,go_sem]at hi
  ·obtain⟨k,hk⟩:=List.getElem?_of_mem ha;exact .inr (K8 hk i hi)
 refine R8 hm A1 Tryz.func254 rfl rfl ?_;simp only[go_sem];refine C6 hm (ι:= {i:Nat // i≤l.length∧ ∀j,j<i→p (l.getD j default)=false}) (fun i=> [(0, .share,B4 24 Joint.enc default l),(1, .share, .fn (.func f) first cap),(7, .share, .sc (.int .i64 l.length)),(8, .share, .sc (.int .i64 i.1))])
  (fun i=>O) (fun i=>l.length-i.1) ⟨0,by omega,fun j hj=>by omega⟩ ?_ ?_
 ·refine R9 hO rfl ?_;simp only[go_sem];exact⟨by rw[J1,J1],fun i hi=>hids i hi⟩
 ·rintro⟨i,hi,hs⟩;simp only[go_sem];split
  ·rename_i hlt;have hlt:i<l.length:=by omega
   refine⟨ok_,?_⟩;have hx:A5 Tryz.prog f (first++ .agg (l.getD i default).enc::cap) O (.sc (.bool (p (l.getD i default)))) O:=by have:=hp (l.getD i default) (D6 default hlt);rwa[List.append_assoc]at this
   refine V1 hx hO rfl (fun a ha=>hargs (l.getD i default) a (by rw[List.append_assoc];exact ha)) rfl ?_;simp only[go_sem];cases hpx:p (l.getD i default)with
   |true=>rw[if_pos rfl];refine O9 [.share] rfl rfl hO (S1 hO) ?_;simp only[go_sem];exact(A3z hlt hs hpx).symm
   |false=>rw[if_neg (by simp)];refine B8 ⟨i+1,by omega,fun j hj=>by rcases Nat.lt_succ_iff_lt_or_eq.1 hj with h |rfl;exact hs j h;exact hpx⟩ (by show l.length-(i+1)<l.length-i;omega) (R9 hO (S1 hO) ?_);simp only[go_sem];exact⟨by rw[J1,J1],fun i hi=>hids i hi,(by rw[IntKind.wrap_i64];omega)⟩
  ·rename_i hge;refine O9 [.share] rfl rfl hO rfl ?_;simp only[go_sem];exact(A0o fun j hj=>hs j (by omega)).symm
end Go.Abs
end
section
namespace Go.Abs
open Go.Proofs
open Api
def I9(a:Int)(b:Int):Int:=(sat (IntKind.i64.wrap ((sat a)+(sat b))))
theorem Z4(a:Int)(b:Int):A5 Tryz.prog D4h [.sc (.int .i64 a), .sc (.int .i64 b)] [] (.sc (.int .i64 (I9 a b))) []:=by
 refine en1 hm A1 Tryz.func252 rfl rfl ?_;have:=H5
 have:=I9.eq_1 a b;exact D3
def E0(a:Int)(b:Int):Int:=let v3:=(Y1 (IntKind.i64.wrap ((sat a)*(sat b))) 65536);(sat v3)
theorem Z5(a:Int)(b:Int):A5 Tryz.prog D3r [.sc (.int .i64 a), .sc (.int .i64 b)] [] (.sc (.int .i64 (E0 a b))) []:=by
 refine en1 hm A1 Tryz.func283 rfl rfl ?_;have:=H5
 have:=M2
 have:=E0.eq_1 a b;exact D3
def A1s(x:Int)(low:Int)(high:Int):Int:=if((decide (high<low))||(decide (x<low)))=true then(low)else(if high<x then(high)else(x))
theorem B7o(x:Int)(low:Int)(high:Int):A5 Tryz.prog C86 [.sc (.int .i64 x), .sc (.int .i64 low), .sc (.int .i64 high)] [] (.sc (.int .i64 (A1s x low high))) []:=by refine en1 hm A1 Tryz.func182 rfl rfl ?_;have:=A1s.eq_1 x low high;exact D3
def P0(a:Int)(b:Int):Int:=if((sat b)==0)=true then(let v3:=(A1s (IntKind.i64.wrap ((sat a)*65536)) (-1) 1);(IntKind.i64.wrap (v3*536870911)))else(if(sat b)<0 then(let v4:=(Y1 (IntKind.i64.wrap (0-(IntKind.i64.wrap ((sat a)*65536)))) (IntKind.i64.wrap (0-(sat b))));(sat v4))else(let v6:=(Y1 (IntKind.i64.wrap ((sat a)*65536)) (sat b));(sat v6)))
theorem A6t(a:Int)(b:Int):A5 Tryz.prog D3i [.sc (.int .i64 a), .sc (.int .i64 b)] [] (.sc (.int .i64 (P0 a b))) []:=by
 refine en1 hm A1 Tryz.func339 rfl rfl ?_;have:=H5
 have:=B7o
 have:=M2
 have:=P0.eq_1 a b;exact D3
def A4t(n:Int)(d:Int):Int:=if(((decide (d<1))||(decide (4611686018427387904<d)))||(decide (n<1)))=true then(0)else(if d≤n then(65536)else(if d<70368744177664 then(let v1:=(Y1 (IntKind.i64.wrap (n*65536)) d);v1)else(let v2:=(Y1 d 65536);let v3:=(Y1 n v2);(if 65536<v3 then 65536 else v3))))
theorem B0f(n:Int)(d:Int):A5 Tryz.prog C9z [.sc (.int .i64 n), .sc (.int .i64 d)] [] (.sc (.int .i64 (A4t n d))) []:=by
 refine en1 hm A1 Tryz.func337 rfl rfl ?_;have:=M2
 have:=A4t.eq_1 n d;exact D3
def A8b(a:Int)(b:Int)(t:Int):Int:=let v1:=(sat (sat b-sat a));let v2:=(E0 v1 t);let v3:=(I9 a v2);v3
theorem D1f(a:Int)(b:Int)(t:Int):A5 Tryz.prog D23 [.sc (.int .i64 a), .sc (.int .i64 b), .sc (.int .i64 t)] [] (.sc (.int .i64 (A8b a b t))) []:=by
 refine en1 hm A1 Tryz.func233 rfl rfl ?_;have:=A6u
 have:=Z5
 have:=Z4
 have:=A8b.eq_1 a b t;exact D3
def A3m(a:Int):Int:=if 205888≤(a.tmod 411776)then((IntKind.i64.wrap ((a.tmod 411776)-411776)))else(if(a.tmod 411776)<(-205888)then((IntKind.i64.wrap ((a.tmod 411776)+411776)))else((a.tmod 411776)))
theorem B0u(a:Int):A5 Tryz.prog C2c [.sc (.int .i64 a)] [] (.sc (.int .i64 (A3m a))) []:=by refine en1 hm A1 Tryz.func414 rfl rfl ?_;have:=A3m.eq_1 a;exact D3
def A9i(x:Int):Int:=if x<0 then((IntKind.i64.wrap (0-x)))else(x)
theorem C2s(x:Int):A5 Tryz.prog D4v [.sc (.int .i64 x)] [] (.sc (.int .i64 (A9i x))) []:=by refine en1 hm A1 Tryz.func465 rfl rfl ?_;have:=A9i.eq_1 x;exact D3
def A9f(a:Int):Int:=let v1:=(A3m a);let v2:=(A9i v1);if 102944<v2 then(let v3:=(P0 (IntKind.i64.wrap (205888-v2)) 102944);let v4:=(E0 v3 v3);let v5:=(E0 v4 4569);let v6:=(sat (sat 41906-sat v5));let v7:=(E0 v4 v6);let v8:=(sat (sat 102873-sat v7));let v9:=(E0 v3 v8);if v1<0 then((IntKind.i64.wrap (0-v9)))else(v9))else(let v10:=(P0 v2 102944);let v11:=(E0 v10 v10);let v12:=(E0 v11 4569);let v13:=(sat (sat 41906-sat v12));let v14:=(E0 v11 v13);let v15:=(sat (sat 102873-sat v14));let v16:=(E0 v10 v15);if v1<0 then((IntKind.i64.wrap (0-v16)))else(v16))
theorem C2l(a:Int):A5 Tryz.prog D4k [.sc (.int .i64 a)] [] (.sc (.int .i64 (A9f a))) []:=by
 refine en1 hm A1 Tryz.func416 rfl rfl ?_;have:=B0u
 have:=C2s
 have:=A6t
 have:=Z5
 have:=A6u
 have:=A9f.eq_1 a;exact D3
def B33(a:Int):Int:=let v1:=(A3m a);let v2:=(A9i v1);let v3:=(A9f (IntKind.i64.wrap (102944-v2)));v3
theorem D3k(a:Int):A5 Tryz.prog D4e [.sc (.int .i64 a)] [] (.sc (.int .i64 (B33 a))) []:=by
 refine en1 hm A1 Tryz.func415 rfl rfl ?_;have:=B0u
 have:=C2s
 have:=C2l
 have:=B33.eq_1 a;exact D3
structure Rot where
 Cos:Int
 Sin:Int
 deriving DecidableEq,Inhabited
def Rot.enc(x:Rot):List AV:=[.sc (.int .i64 x.Cos), .sc (.int .i64 x.Sin)]
def Rot.zero:List AV:= [.sc (.int .i64 0), .sc (.int .i64 0)]
attribute [go_sem] Rot.enc Rot.zero
@[go_sem] theorem G03(x:Rot):Rot.mk x.Cos x.Sin=x:=rfl
structure AABB where
 Min:Vec
 Max:Vec
 deriving DecidableEq,Inhabited
def AABB.enc(x:AABB):List AV:=[.sc (.int .i64 x.Min.X), .sc (.int .i64 x.Min.Y), .sc (.int .i64 x.Max.X), .sc (.int .i64 x.Max.Y)]
def AABB.zero:List AV:= [.sc (.int .i64 0), .sc (.int .i64 0), .sc (.int .i64 0), .sc (.int .i64 0)]
attribute [go_sem] AABB.enc AABB.zero
@[go_sem] theorem F9l(x:AABB):AABB.mk x.Min x.Max=x:=rfl
def B4c(a:Int):Rot:=let v1:=(B33 a);let v2:=(A9f a);let v3:=(isq (IntKind.i64.wrap ((IntKind.i64.wrap (v1*v1))+(IntKind.i64.wrap (v2*v2)))));let v4:=(P0 v1 v3);let v5:=(P0 v2 v3);(⟨v4,v5⟩:Rot)
theorem D35(a:Int):A5 Tryz.prog D4a [.sc (.int .i64 a)] [] (.agg (B4c a).enc) []:=by
 refine P7 25 [(2,some (some 2))] hm A1 Tryz.func305 rfl ?_;have:=D3k
 have:=C2l
 have:=A6v
 have:=A6t
 have:=B4c.eq_1 a;exact D3
def A2e(n:Int):Int:=let v1:=(Y1 n 65536);(sat v1)
theorem A8y(n:Int):A5 Tryz.prog C63 [.sc (.int .i64 n)] [] (.sc (.int .i64 (A2e n))) []:=by
 refine en1 hm A1 Tryz.func387 rfl rfl ?_;have:=M2
 have:=H5
 have:=A2e.eq_1 n;exact D3
def T8(a:Vec)(b:Vec):Vec:=let v1:=(I9 a.X b.X);let v2:=(I9 a.Y b.Y);(⟨v1,v2⟩:Vec)
theorem A17(a:Vec)(b:Vec):A5 Tryz.prog D7c [.agg a.enc, .agg b.enc] [] (.agg (T8 a b).enc) []:=by
 refine P7 16 [(4,some (some 2))] hm A1 Tryz.func141 rfl ?_;have:=Z4
 have:=T8.eq_1 a b;exact D3
def A5k(v:Vec)(k:Int):Vec:=let v1:=(E0 v.X k);let v2:=(E0 v.Y k);(⟨v1,v2⟩:Vec)
theorem C0d(v:Vec)(k:Int):A5 Tryz.prog D1e [.agg v.enc, .sc (.int .i64 k)] [] (.agg (A5k v k).enc) []:=by
 refine P7 14 [(4,some (some 2))] hm A1 Tryz.func282 rfl ?_;have:=Z5
 have:=A5k.eq_1 v k;exact D3
def V5(a:Vec)(b:Vec):Int:=let v1:=(A77 a);let v2:=(A77 b);let v3:=(A2e (IntKind.i64.wrap ((IntKind.i64.wrap (v1.X*v2.X))+(IntKind.i64.wrap (v1.Y*v2.Y)))));v3
theorem A4g(a:Vec)(b:Vec):A5 Tryz.prog D7o [.agg a.enc, .agg b.enc] [] (.sc (.int .i64 (V5 a b))) []:=by
 refine en1 hm A1 Tryz.func273 rfl rfl ?_;have:=T9
 have:=A8y
 have:=V5.eq_1 a b;exact D3
def A2g(a:Vec)(b:Vec):Int:=let v1:=(A77 a);let v2:=(A77 b);let v3:=(A2e (IntKind.i64.wrap ((IntKind.i64.wrap (v1.X*v2.Y))-(IntKind.i64.wrap (v1.Y*v2.X)))));v3
theorem A7x(a:Vec)(b:Vec):A5 Tryz.prog D1h [.agg a.enc, .agg b.enc] [] (.sc (.int .i64 (A2g a b))) []:=by
 refine en1 hm A1 Tryz.func336 rfl rfl ?_;have:=T9
 have:=A8y
 have:=A2g.eq_1 a b;exact D3
def X9(v:Vec):Vec:=let v1:=(A4c v);if(v1==0)=true then((⟨0,0⟩:Vec))else(let v2:=(P0 v.X v1);let v3:=(P0 v.Y v1);(⟨v2,v3⟩:Vec))
theorem A4f(v:Vec):A5 Tryz.prog C33 [.agg v.enc] [] (.agg (X9 v).enc) []:=by
 refine P7 18 [(2,some (some 2))] hm A1 Tryz.func335 rfl ?_;have:=A1w
 have:=A6t
 have:=X9.eq_1 v;exact D3
def A9e(v:Vec):Vec:=let v1:=(A77 v);(⟨(IntKind.i64.wrap (0-v1.Y)),v1.X⟩:Vec)
theorem D4d(v:Vec):A5 Tryz.prog D3x [.agg v.enc] [] (.agg (A9e v).enc) []:=by
 refine P7 11 [(2,some (some 2))] hm A1 Tryz.func293 rfl ?_;have:=T9
 have:=A9e.eq_1 v;exact D3
def A3e(a:Vec)(b:Vec)(t:Int):Vec:=let v1:=(A8b a.X b.X t);let v2:=(A8b a.Y b.Y t);(⟨v1,v2⟩:Vec)
theorem A6m(a:Vec)(b:Vec)(t:Int):A5 Tryz.prog D3p [.agg a.enc, .agg b.enc, .sc (.int .i64 t)] [] (.agg (A3e a b t).enc) []:=by
 refine P7 20 [(6,some (some 2))] hm A1 Tryz.func127 rfl ?_;have:=D1f
 have:=A3e.eq_1 a b t;exact D3
def B0b(r:Rot)(v:Vec):Vec:=let v3:=(A77 v);let v4:=(A2e (IntKind.i64.wrap ((IntKind.i64.wrap ((sat r.Cos)*v3.X))-(IntKind.i64.wrap ((sat r.Sin)*v3.Y)))));let v5:=(A2e (IntKind.i64.wrap ((IntKind.i64.wrap ((sat r.Sin)*v3.X))+(IntKind.i64.wrap ((sat r.Cos)*v3.Y)))));(⟨v4,v5⟩:Vec)
theorem C9d(r:Rot)(v:Vec):A5 Tryz.prog C9r [.agg r.enc, .agg v.enc] [] (.agg (B0b r v).enc) []:=by
 refine P7 36 [(4,some (some 2))] hm A1 Tryz.func304 rfl ?_;have:=H5
 have:=T9
 have:=A8y
 have:=B0b.eq_1 r v;exact D3
def S9(t:Transform)(v:Vec):Vec:=let v1:=(B4c t.Angle);let v2:=(B0b v1 v);let v3:=(T8 v2 t.Position);v3
theorem B0q(t:Transform)(v:Vec):A5 Tryz.prog C2b [.agg t.enc, .agg v.enc] [] (.agg (S9 t v).enc) []:=by
 refine P7 13 [(4,some (some 2))] hm A1 Tryz.func240 rfl ?_;have:=D35
 have:=C9d
 have:=A17
 have:=S9.eq_1 t v;exact D3
def H0(v:Vec):Vec:=(⟨(sat v.X),(sat v.Y)⟩:Vec)
theorem C4i(v:Vec):A5 Tryz.prog C46 [.agg v.enc] [] (.agg (H0 v).enc) []:=by
 refine P7 10 [(2,some (some 2))] hm A1 Tryz.func249 rfl ?_;have:=H5
 have:=H0.eq_1 v;exact D3
def A4o(v:Vec):Bool:=(((sat v.X)==v.X)&&((sat v.Y)==v.Y))
theorem C2x(v:Vec):A5 Tryz.prog C25 [.agg v.enc] [] (.sc (.bool (A4o v))) []:=by
 refine en1 hm A1 Tryz.func248 rfl rfl ?_;have:=H5
 have:=A4o.eq_1 v;exact D3
def B10(a:Vec)(b:Vec):Vec:=(⟨(if b.X<a.X then b.X else a.X),(if b.Y<a.Y then b.Y else a.Y)⟩:Vec)
theorem B9b(a:Vec)(b:Vec):A5 Tryz.prog D0n [.agg a.enc, .agg b.enc] [] (.agg (B10 a b).enc) []:=by refine P7 16 [(4,some (some 2))] hm A1 Tryz.func250 rfl ?_;have:=B10.eq_1 a b;exact D3
def B13(a:Vec)(b:Vec):Vec:=(⟨(if a.X<b.X then b.X else a.X),(if a.Y<b.Y then b.Y else a.Y)⟩:Vec)
theorem B9f(a:Vec)(b:Vec):A5 Tryz.prog D0k [.agg a.enc, .agg b.enc] [] (.agg (B13 a b).enc) []:=by refine P7 16 [(4,some (some 2))] hm A1 Tryz.func251 rfl ?_;have:=B13.eq_1 a b;exact D3
def A7z(b:AABB):Bool:=let v1:=(A4o b.Min);let v2:=(A4o b.Max);((((decide (b.Min.X≤b.Max.X))&&(decide (b.Min.Y≤b.Max.Y)))&&v1)&&v2)
theorem D19(b:AABB):A5 Tryz.prog D0i [.agg b.enc] [] (.sc (.bool (A7z b))) []:=by
 refine en1 hm A1 Tryz.func138 rfl rfl ?_;have:=C2x
 have:=A7z.eq_1 b;exact D3
def A79(a:AABB)(b:AABB):Bool:=((((decide (a.Min.X≤b.Max.X))&&(decide (b.Min.X≤a.Max.X)))&&(decide (a.Min.Y≤b.Max.Y)))&&(decide (b.Min.Y≤a.Max.Y)))
theorem C40(a:AABB)(b:AABB):A5 Tryz.prog C5i [.agg a.enc, .agg b.enc] [] (.sc (.bool (A79 a b))) []:=by refine en1 hm A1 Tryz.func139 rfl rfl ?_;have:=A79.eq_1 a b;exact D3
def A0b(a:AABB)(b:AABB):Bool:=let v1:=(A7z a);let v2:=(A7z b);let v3:=(A79 a b);((v1&&v2)&&v3)
theorem B22(a:AABB)(b:AABB):A5 Tryz.prog C5p [.agg a.enc, .agg b.enc] [] (.sc (.bool (A0b a b))) []:=by
 refine en1 hm A1 Tryz.func72 rfl rfl ?_;have:=D19
 have:=C40
 have:=A0b.eq_1 a b;exact D3
def A7(v:Vec):Vec:=(⟨(sat v.X),(sat v.Y)⟩:Vec)
theorem A90(v:Vec):A5 Tryz.prog B9l [.agg v.enc] [] (.agg (A7 v).enc) []:=by
 refine P7 10 [(2,some (some 2))] hm A1 Tryz.func365 rfl ?_;have:=H5
 have:=A7.eq_1 v;exact D3
def A08(c:Vec)(d:Vec)(p:Vec):Int:=(if(IntKind.i64.wrap ((IntKind.i64.wrap ((IntKind.i64.wrap (d.X-c.X))*(IntKind.i64.wrap (p.Y-c.Y))))-(IntKind.i64.wrap ((IntKind.i64.wrap (d.Y-c.Y))*(IntKind.i64.wrap (p.X-c.X))))))<(IntKind.i64.wrap (0-(IntKind.i64.wrap ((IntKind.i64.wrap ((IntKind.i64.wrap (d.X-c.X))*(IntKind.i64.wrap (p.Y-c.Y))))-(IntKind.i64.wrap ((IntKind.i64.wrap (d.Y-c.Y))*(IntKind.i64.wrap (p.X-c.X))))))))then(IntKind.i64.wrap (0-(IntKind.i64.wrap ((IntKind.i64.wrap ((IntKind.i64.wrap (d.X-c.X))*(IntKind.i64.wrap (p.Y-c.Y))))-(IntKind.i64.wrap ((IntKind.i64.wrap (d.Y-c.Y))*(IntKind.i64.wrap (p.X-c.X))))))))else(IntKind.i64.wrap ((IntKind.i64.wrap ((IntKind.i64.wrap (d.X-c.X))*(IntKind.i64.wrap (p.Y-c.Y))))-(IntKind.i64.wrap ((IntKind.i64.wrap (d.Y-c.Y))*(IntKind.i64.wrap (p.X-c.X)))))))
theorem B35(c:Vec)(d:Vec)(p:Vec):A5 Tryz.prog B3i [.agg c.enc, .agg d.enc, .agg p.enc] [] (.sc (.int .i64 (A08 c d p))) []:=by refine en1 hm A1 Tryz.func366 rfl rfl ?_;have:=A08.eq_1 c d p;exact D3
def B5(a:Vec)(b:Vec)(p:Vec):Vec×Int:=let v1:=(A7 a);let v2:=(A7 b);let v3:=(A7 p);let v4:=(A8i v1 v2);let v5:=(A4t (IntKind.i64.wrap ((IntKind.i64.wrap ((IntKind.i64.wrap (v3.X-v1.X))*(IntKind.i64.wrap (v2.X-v1.X))))+(IntKind.i64.wrap ((IntKind.i64.wrap (v3.Y-v1.Y))*(IntKind.i64.wrap (v2.Y-v1.Y)))))) v4);if(v5==0)=true then((v1,v5))else(if(v5==65536)=true then((v2,v5))else(let v6:=(A3e v1 v2 v5);(v6,v5)))
theorem B4a(a:Vec)(b:Vec)(p:Vec):A5 Tryz.prog B31 [.agg a.enc, .agg b.enc, .agg p.enc] [] (.tup [.agg (B5 a b p).1.enc, .sc (.int .i64 (B5 a b p).2)]) []:=by
 refine P6 56 [(6,some (some 2)),(7,none)] hm A1 Tryz.func367 rfl ?_;have:=A90
 have:=X3
 have:=B0f
 have:=A6m
 have:=B5.eq_1 a b p;exact D3
end Go.Abs
end
section
namespace Go.Abs
open Go.Proofs
open Api
def A0s(x:Int):Bool:=((decide ((-268435456)≤x))&&(decide (x≤268435456)))
theorem B7x(x:Int):A5 Tryz.prog B73 [.sc (.int .i64 x)] [] (.sc (.bool (A0s x))) []:=by refine en1 hm A1 Tryz.func369 rfl rfl ?_;have:=A0s.eq_1 x;exact D3
def Q5(t:Transform):Bool:=let v1:=(A0s t.Position.X);let v2:=(A0s t.Position.Y);(((v1&&v2)&&(decide ((-205888)≤t.Angle)))&&(decide (t.Angle<205888)))
theorem A6i(t:Transform):A5 Tryz.prog C1m [.agg t.enc] [] (.sc (.bool (Q5 t))) []:=by
 refine en1 hm A1 Tryz.func257 rfl rfl ?_;have:=B7x
 have:=Q5.eq_1 t;exact D3
def A4x(x:Int):Bool:=((decide (x<(-268435456)))||(decide (268435456<x)))
theorem B7p(x:Int):A5 Tryz.prog C9x [.sc (.int .i64 x)] [] (.sc (.bool (A4x x))) []:=by refine en1 hm A1 Tryz.func318 rfl rfl ?_;have:=A4x.eq_1 x;exact D3
theorem D34(t:Transform):A5 Tryz.prog D4b [.agg t.enc] [] (.sc (.bool (Q5 t))) []:=by
 refine en1 hm A1 Tryz.func207 rfl rfl ?_;simp only[go_sem,A4,A6,A3,A2]
 (repeat(with_reducible refine And.intro ?_ ?_;focus (first |exact B0 |(exact ob_))))
 refine A0 (B7p t.Position.X) rfl ?_;generalize hv1:(A4x t.Position.X)=v1;simp only[go_sem,A4,A6,A3,A2]
 (repeat(with_reducible refine And.intro ?_ ?_;focus (first |exact B0 |(exact ob_))))
 refine A0 (B7p t.Position.Y) rfl ?_;generalize hv2:(A4x t.Position.Y)=v2;simp only[go_sem,A4,A6,A3,A2]
 (repeat(with_reducible refine And.intro ?_ ?_;focus (first |exact B0 |(exact ob_))))
 have hd:Q5 t=((((!v1)&&(!v2))&&(decide ((-205888)≤t.Angle)))&&(decide (t.Angle<205888))):=by(subst hv2;subst hv1;simp only[Q5,A0s,A4x]at*;first |with_reducible rfl |(rw[Bool.eq_iff_iff];simp only[Bool.and_eq_true,Bool.or_eq_true,Bool.not_eq_true',Bool.not_eq_false',decide_eq_true_eq,decide_eq_false_iff_not,bne_iff_ne,beq_iff_eq,ne_eq,Bool.and_eq_false_iff,Bool.or_eq_false_iff,beq_eq_false_iff_ne,bne_eq_false_iff_eq,Bool.not_eq_true,Bool.false_eq_true,iff_false,iff_true]at*;omega) |((repeat' split) <;> first |rfl |omega |(simp only[Bool.and_eq_true,Bool.or_eq_true,Bool.not_eq_true',Bool.not_eq_false',decide_eq_true_eq,decide_eq_false_iff_not,bne_iff_ne,beq_iff_eq,ne_eq,Bool.and_eq_false_iff,Bool.or_eq_false_iff,beq_eq_false_iff_ne,bne_eq_false_iff_eq,Bool.not_eq_true,Bool.false_eq_true,iff_false,iff_true]at*;omega) |(simp_all;done) |(simp_all;omega)))
 try rw[hd]
 try simp only[go_sem,A4,A6,A3,A2]
 all_goals exact F4
def A2b(v:Vec)(limit:Int):Bool:=((inR v.X (IntKind.i64.wrap (0-limit)) limit)&&(inR v.Y (IntKind.i64.wrap (0-limit)) limit))
theorem C79(v:Vec)(limit:Int):A5 Tryz.prog C7w [.agg v.enc, .sc (.int .i64 limit)] [] (.sc (.bool (A2b v limit))) []:=by
 refine en1 hm A1 Tryz.func327 rfl rfl ?_;have:=B0k
 have:=A2b.eq_1 v limit;exact D3
def A6x(b:Body):Bool:=((!((b.Velocity.X==0)&&(b.Velocity.Y==0)))||(b.AngularVelocity != 0))
theorem C82(b:Body):A5 Tryz.prog C9s [.agg b.enc] [] (.sc (.bool (A6x b))) []:=by refine en1 hm A1 Tryz.func329 rfl rfl ?_;have:=A6x.eq_1 b;exact D3
def A3l(b:Body):Bool:=let v1:=(A6x b);if((b.Kind==1)&&(v1||((!((b.Force.X==0)&&(b.Force.Y==0)))||(b.Torque != 0))))=true then(false)else(if((b.Kind != 3)&&(b.Asleep||b.Bullet))=true then(false)else(((!b.Asleep)||(!v1))))
theorem C11(b:Body):A5 Tryz.prog C10 [.agg b.enc] [] (.sc (.bool (A3l b))) []:=by
 refine en1 hm A1 Tryz.func215 rfl rfl ?_;have:=C82
 have:=A3l.eq_1 b;exact D3
def R4(s:Shape):Bool:=if(s.Kind==1)=true then(((s.Vertices.length:Int)==1))else(if(s.Kind==2)=true then(((s.Vertices.length:Int)==2))else(((decide (3≤(s.Vertices.length:Int)))&&(decide ((s.Vertices.length:Int)≤8)))))
theorem C0p(s:Shape):A5 Tryz.prog B9x [.agg s.enc] [] (.sc (.bool (R4 s))) []:=by refine en1 hm A1 Tryz.func358 rfl rfl ?_;have:=R4.eq_1 s;exact D3
theorem E5x(s:Shape):R4 s=true→(s.Kind=1→s.Vertices.length=1)∧(s.Kind=2→s.Vertices.length=2)∧(s.Kind=3→3≤s.Vertices.length):=by
 intro h;unfold R4 at h
 (repeat' split at h) <;> simp only[Bool.and_eq_true,decide_eq_true_eq,beq_iff_eq,bne_iff_ne]at* <;> omega
def U7(s:Shape):Bool:=if(s.Kind==3)=true then(((decide (3≤(s.Vertices.length:Int)))&&(decide ((s.Vertices.length:Int)≤8))))else(((s.Vertices.length:Int)==s.Kind))
theorem B8q(s:Shape):A5 Tryz.prog C0u [.agg s.enc] [] (.sc (.bool (U7 s))) []:=by refine en1 hm A1 Tryz.func319 rfl rfl ?_;have:=U7.eq_1 s;exact D3
theorem E68(s:Shape):U7 s=true→(s.Kind=1→s.Vertices.length=1)∧(s.Kind=2→s.Vertices.length=2)∧(s.Kind=3→3≤s.Vertices.length):=by
 intro h;unfold U7 at h
 (repeat' split at h) <;> simp only[Bool.and_eq_true,decide_eq_true_eq,beq_iff_eq,bne_iff_ne]at* <;> omega
def A1g(n:Int):Bool:=((decide (n<(-1048576)))||(decide (1048576<n)))
theorem B9h(n:Int):A5 Tryz.prog B8v [.sc (.int .i64 n)] [] (.sc (.bool (A1g n))) []:=by refine en1 hm A1 Tryz.func361 rfl rfl ?_;have:=A1g.eq_1 n;exact D3
def V7(l:List Vec)(i1:Nat)(s1:Unit):(Unit) ⊕ (Bool):=let v1:=(A3y (l.getD i1 default));if v1=false then(.inr false)else(.inl ())
def A0c(l:List Vec):Bool:=(match D0 (V7 l) l.length ()with | .inr r=>r | .inl s1=>true)
theorem B59(l:List Vec)(hl:l.length≤1048576):A5 Tryz.prog B50 [B4 2 Vec.enc default l] [] (.sc (.bool (A0c l))) []:=by
 refine en1 hm A1 Tryz.func436 rfl rfl ?_;have:=C16
 have:=A0c.eq_1 l
 have:=fun i_ s_=>V7.eq_1 l i_ s_
 have:=fun x_ Q_ σ_=> @lp_ Tryz.prog Tryz.f436.ntmps [] x_ Q_ σ_ hm (IE (V7 l) ()) (fun _=>True) l.length (fun i_=> [(5, .share,B4 2 Vec.enc default l),(6, .share, .sc (.int .i64 (l.length:Int))),(7, .share, .sc (.int .i64 (i_:Int)))]) (fun i_=> []) [] rfl (fun _ _=>trivial) (by simp[go_sem]) (by simp[go_sem,A9]) (by simp[go_sem]);exact A2x
def A1f(k:B2):Bool:=(((((decide (k.BodyA<k.BodyB))&&(decide (0≤k.FixtureA)))&&(decide (k.FixtureA<4)))&&(decide (0≤k.FixtureB)))&&(decide (k.FixtureB<4)))
theorem B9y(k:B2):A5 Tryz.prog B9o [.agg k.enc] [] (.sc (.bool (A1f k))) []:=by refine en1 hm A1 Tryz.func224 rfl rfl ?_;have:=A1f.eq_1 k;exact D3
end Go.Abs
end
section
namespace Go.Abs
open Go.Proofs
open Api
def R1(vs:List Vec)(i1:Nat)(i2:Nat)(s2:Unit):(Unit) ⊕ (Bool):=let v2:=(ori (vs.getD i1 default) (vs.getD ((IntKind.i64.wrap ((i1:Int)+1)).tmod (vs.length:Int)).toNat default) (vs.getD i2 default));if((((i2:Int) != (i1:Int))&&((i2:Int) != ((IntKind.i64.wrap ((i1:Int)+1)).tmod (vs.length:Int))))&&(v2 != 1))=true then(.inr false)else(.inl ())
def N7(vs:List Vec)(i1:Nat)(s1:Unit):(Unit) ⊕ (Bool):=(match D0 (R1 vs i1) vs.length ()with | .inr r=> .inr r | .inl s2=> .inl ())
def F6(vs:List Vec):Bool:=let v1:=(A0c vs);if(((decide ((vs.length:Int)<3))||(decide (8<(vs.length:Int))))||(!v1))=true then(false)else((match D0 (N7 vs) vs.length ()with | .inr r=>r | .inl s1=>true))
theorem A25(vs:List Vec)(hn:vs.length≤1048576):A5 Tryz.prog C03 [B4 2 Vec.enc default vs] [] (.sc (.bool (F6 vs))) []:=by
 refine en1 hm A1 Tryz.func362 rfl rfl ?_;simp only[go_sem,A4,A6,A3,A2]
 (repeat(with_reducible refine And.intro ?_ ?_;focus (first |exact B0 |(exact ob_))))
 refine A0 (B59 vs (by(first |assumption |omega |exact B0 |(simp_all;done) |(simp_all;omega)))) rfl ?_;generalize hv1:(A0c vs)=v1;simp only[go_sem,A4,A6,A3,A2]
 (repeat(with_reducible refine And.intro ?_ ?_;focus (first |exact B0 |(exact ob_))))
 by_cases h1:(((decide ((vs.length:Int)<3))||(decide (8<(vs.length:Int))))||(!v1))=true
 ·first |rw[if_pos h1] |rw[if_pos (by simp_all)] |rw[if_pos (by omega)]
  (repeat(with_reducible refine And.intro ?_ ?_;focus (first |exact B0 |(exact ob_))))
  have hd:F6 vs=false:=by first |with_reducible rfl |(unfold F6;exact hd_)
  try rw[hd]
  try simp only[go_sem,A4,A6,A3,A2]
  all_goals exact F4
 ·first |rw[if_neg h1] |rw[if_neg (by simp_all)] |rw[if_neg (by omega)]
  (repeat(with_reducible refine And.intro ?_ ?_;focus (first |exact B0 |(exact ob_))))
  refine C6 hm (ι:= {p:Nat×Unit // p.1≤vs.length∧D0 (N7 vs) p.1 ()= .inl p.2}) (fun i=> [(0, .share,B4 2 Vec.enc default vs),(3, .share, .sc (.int .i64 (vs.length:Int))),(22, .share,B4 2 Vec.enc default vs),(23, .share, .sc (.int .i64 (vs.length:Int))),(24, .share, .sc (.int .i64 (i.1.1:Int)))]) (fun i=> []) (fun i=>vs.length-i.1.1) ⟨(0,()),by omega,rfl⟩ ?_ ?_
  ·refine F9 [] [] ?_;simp only[go_sem,A4,A6,A3,A2,B6]
   all_goals exact F4
  ·rintro⟨⟨i1,s1⟩,hi1,hs1⟩;replace hi1:i1≤vs.length:=hi1;replace hs1:D0 (N7 vs) i1 ()= .inl s1:=hs1;simp only[go_sem,A4,A6,A3,A2]
   (repeat(with_reducible refine And.intro ?_ ?_;focus (first |exact B0 |(exact ob_))))
   by_cases h2:(i1:Int)<(vs.length:Int)
   ·first |rw[if_pos h2] |rw[if_pos (by simp_all)] |rw[if_pos (by omega)]
    have hlt1:i1<vs.length:=by first |omega |(simp only[IntKind.wrap_i64]at h2;omega)
    (repeat(with_reducible refine And.intro ?_ ?_;focus (first |exact B0 |(exact ob_))))
    refine C6 hm (ι:= {p:Nat×Unit // p.1≤vs.length∧D0 (R1 vs i1) p.1 ()= .inl p.2}) (fun i=> [(0, .share,B4 2 Vec.enc default vs),(3, .share, .sc (.int .i64 (vs.length:Int))),(4, .share, .sc (.int .i64 (i1:Int))),(5, .share, .ptr 96 0 0 1),(6, .share, .sc (.int .i64 ((IntKind.i64.wrap ((i1:Int)+1)).tmod (vs.length:Int)))),(22, .share,B4 2 Vec.enc default vs),(23, .share, .sc (.int .i64 (vs.length:Int))),(24, .share, .sc (.int .i64 (i1:Int))),(33, .share,B4 2 Vec.enc default vs),(34, .share, .sc (.int .i64 (vs.length:Int))),(35, .share, .sc (.int .i64 (i.1.1:Int)))]) (fun i=> [(96, .box [.sc (.int .i64 (vs.getD i1 default).X), .sc (.int .i64 (vs.getD i1 default).Y)])]) (fun i=>vs.length-i.1.1) ⟨(0,()),by omega,rfl⟩ ?_ ?_
    ·refine F9 [] [] ?_;simp only[go_sem,A4,A6,A3,A2,B6]
     all_goals exact F4
    ·rintro⟨⟨i2,s2⟩,hi2,hs2⟩;replace hi2:i2≤vs.length:=hi2;replace hs2:D0 (R1 vs i1) i2 ()= .inl s2:=hs2;simp only[go_sem,A4,A6,A3,A2]
     (repeat(with_reducible refine And.intro ?_ ?_;focus (first |exact B0 |(exact ob_))))
     by_cases h3:(i2:Int)<(vs.length:Int)
     ·first |rw[if_pos h3] |rw[if_pos (by simp_all)] |rw[if_pos (by omega)]
      have hlt2:i2<vs.length:=by first |omega |(simp only[IntKind.wrap_i64]at h3;omega)
      (repeat(with_reducible refine And.intro ?_ ?_;focus (first |exact B0 |(exact ob_))))
      refine A0 (Z1 (vs.getD i1 default) (vs.getD ((IntKind.i64.wrap ((i1:Int)+1)).tmod (vs.length:Int)).toNat default) (vs.getD i2 default)) rfl ?_;generalize hv2:(ori (vs.getD i1 default) (vs.getD ((IntKind.i64.wrap ((i1:Int)+1)).tmod (vs.length:Int)).toNat default) (vs.getD i2 default))=v2;simp only[go_sem,A4,A6,A3,A2]
      (repeat(with_reducible refine And.intro ?_ ?_;focus (first |exact B0 |(exact ob_))))
      by_cases h4:((((i2:Int) != (i1:Int))&&((i2:Int) != ((IntKind.i64.wrap ((i1:Int)+1)).tmod (vs.length:Int))))&&(v2 != 1))=true
      ·first |rw[if_pos h4] |rw[if_pos (by simp_all)] |rw[if_pos (by omega)]
       (repeat(with_reducible refine And.intro ?_ ?_;focus (first |exact B0 |(exact ob_))))
       have e2:D0 (R1 vs i1) (i2+1) ()= .inr false:=K3 hs2 (by first |with_reducible rfl |(unfold R1;exact hd_));replace e2:=U5 e2 (show i2+1≤vs.length by omega);have e1:D0 (N7 vs) (i1+1) ()= .inr false:=K3 hs1 (by first |with_reducible rfl |(unfold N7;exact hd_));replace e1:=U5 e1 (show i1+1≤vs.length by omega);have hd:F6 vs=false:=by first |with_reducible rfl |(unfold F6;exact hd_)
       try rw[hd]
       try simp only[go_sem,A4,A6,A3,A2]
       all_goals exact F4
      ·first |rw[if_neg h4] |rw[if_neg (by simp_all)] |rw[if_neg (by omega)]
       (repeat(with_reducible refine And.intro ?_ ?_;focus (first |exact B0 |(exact ob_))))
       have hn:D0 (R1 vs i1) (i2+1) ()= .inl ():=K3 hs2 (by first |with_reducible rfl |(unfold R1;exact hd_));refine B8 ⟨(i2+1,()),by omega,hn⟩ (by show vs.length-(i2+1)<vs.length-i2;omega) (F9 [] [] ?_);simp only[go_sem,A4,A6,A3,A2]
       all_goals exact F4
     ·first |rw[if_neg h3] |rw[if_neg (by simp_all)] |rw[if_neg (by omega)]
      (repeat(with_reducible refine And.intro ?_ ?_;focus (first |exact B0 |(exact ob_))))
      have hge:i2=vs.length:=by first |omega |(simp only[IntKind.wrap_i64]at h3;omega)
      subst hge;have hn:D0 (N7 vs) (i1+1) ()= .inl ():=K3 hs1 (by first |with_reducible rfl |(unfold N7;exact hd_));refine B8 ⟨(i1+1,()),by omega,hn⟩ (by show vs.length-(i1+1)<vs.length-i1;omega) (F9 [] [] ?_);simp only[go_sem,A4,A6,A3,A2]
      all_goals exact F4
   ·first |rw[if_neg h2] |rw[if_neg (by simp_all)] |rw[if_neg (by omega)]
    (repeat(with_reducible refine And.intro ?_ ?_;focus (first |exact B0 |(exact ob_))))
    have hge:i1=vs.length:=by first |omega |(simp only[IntKind.wrap_i64]at h2;omega)
    subst hge;have hd:F6 vs=true:=by first |with_reducible rfl |(unfold F6;exact hd_)
    try rw[hd]
    try simp only[go_sem,A4,A6,A3,A2]
    all_goals exact F4
theorem B0y(vs:List Vec):F6 vs=true→3≤vs.length∧vs.length≤8:=by
 intro h;unfold F6 at h;simp only at h;split at h
 ·cases h
 ·rename_i hc;simp only[Bool.or_eq_true,decide_eq_true_eq,not_or]at hc;omega
def P8(vs:List Vec)(i1:Nat)(s1:Int):Int:=let v2:=(J8 (vs.getD ((IntKind.i64.wrap ((i1:Int)+1)).tmod (vs.length:Int)).toNat default) (vs.getD i1 default));let v3:=(A4c v2);(if v3<s1 then v3 else s1)
def S4(vs:List Vec):Int:=let v1:=(F6 vs);if v1=false then(0)else(let s1:=itr (P8 vs) vs.length 536870911;s1)
theorem B3z(vs:List Vec)(hn:vs.length≤1048576):A5 Tryz.prog B3f [B4 2 Vec.enc default vs] [] (.sc (.int .i64 (S4 vs))) []:=by
 refine en1 hm A1 Tryz.func363 rfl rfl ?_;have:=B0y vs
 have:=A25
 have:=N4
 have:=A1w
 have:=S4.eq_1 vs
 have:=fun i_ s_=>P8.eq_1 vs i_ s_
 have:=fun x_ Q_ σ_=> @lp_ Tryz.prog Tryz.f363.ntmps [] x_ Q_ σ_ hm (fun _=>True) (fun _=>True) vs.length (fun i_=> [(0, .share,B4 2 Vec.enc default vs),(3, .share, .sc (.int .i64 (itr (P8 vs) i_ 536870911))),(9, .share,B4 2 Vec.enc default vs),(10, .share, .sc (.int .i64 (vs.length:Int))),(11, .share, .sc (.int .i64 (i_:Int)))]) (fun i_=> []) [] trivial (fun _ _=>trivial) (by simp[go_sem]) (by simp[go_sem,A9]) (by simp[go_sem]);exact A2x
structure F0 where
 e:Vec
 f:Vec
 cross:Int
 deriving DecidableEq,Inhabited
def F0.enc(x:F0):List AV:=[.sc (.int .i64 x.e.X), .sc (.int .i64 x.e.Y), .sc (.int .i64 x.f.X), .sc (.int .i64 x.f.Y), .sc (.int .i64 x.cross)]
def F0.zero:List AV:= [.sc (.int .i64 0), .sc (.int .i64 0), .sc (.int .i64 0), .sc (.int .i64 0), .sc (.int .i64 0)]
attribute [go_sem] F0.enc F0.zero
@[go_sem] theorem D6v(x:F0):F0.mk x.e x.f x.cross=x:=rfl
def K7(vs:List Vec)(i1:Nat)(s1:(List F0)×Int):(List F0)×Int:=let v1:=(Y1 (IntKind.i64.wrap ((IntKind.i64.wrap ((IntKind.i64.wrap ((vs.getD (i1+1) default).X-(vs.getD 0 default).X))*(IntKind.i64.wrap ((vs.getD (IntKind.i64.wrap (((i1+1:Nat):Int)+1)).toNat default).Y-(vs.getD 0 default).Y))))-(IntKind.i64.wrap ((IntKind.i64.wrap ((vs.getD (i1+1) default).Y-(vs.getD 0 default).Y))*(IntKind.i64.wrap ((vs.getD (IntKind.i64.wrap (((i1+1:Nat):Int)+1)).toNat default).X-(vs.getD 0 default).X)))))) 65536);((s1.1++ [(⟨(⟨(IntKind.i64.wrap ((vs.getD (i1+1) default).X-(vs.getD 0 default).X)),(IntKind.i64.wrap ((vs.getD (i1+1) default).Y-(vs.getD 0 default).Y))⟩:Vec),(⟨(IntKind.i64.wrap ((vs.getD (IntKind.i64.wrap (((i1+1:Nat):Int)+1)).toNat default).X-(vs.getD 0 default).X)),(IntKind.i64.wrap ((vs.getD (IntKind.i64.wrap (((i1+1:Nat):Int)+1)).toNat default).Y-(vs.getD 0 default).Y))⟩:Vec),v1⟩:F0)]),(IntKind.i64.wrap (s1.2+v1)))
def K1(vs:List Vec):(List F0)×Int:=let s1:=itr (K7 vs) (vs.length-2) ([],0);(s1.1,s1.2)
theorem B7v(vs:List Vec)(hn:vs.length≤1048576)(h0:1≤vs.length):A5 Tryz.prog C9i [B4 2 Vec.enc default vs] [] (.tup [B4 5 F0.enc default (K1 vs).1, .sc (.int .i64 (K1 vs).2)]) []:=by
 refine enT hm A1 Tryz.func437 rfl rfl ?_;simp only[go_sem,A4,A6,A3,A2]
 (repeat(with_reducible refine And.intro ?_ ?_;focus (first |exact B0 |(exact ob_))))
 refine C6 hm (ι:= {i:Nat // i≤(vs.length-2)}) (fun i=> [(0, .share,B4 2 Vec.enc default vs),(4,if i.1=0 then .adopt else .share, .sl 1004 0 (itr (K7 vs) i.1 ([],0)).1.length (itr (K7 vs) i.1 ([],0)).1.length),(5, .share, .sc (.int .i64 (itr (K7 vs) i.1 ([],0)).2)),(6, .share, .ptr 112 0 0 1),(7, .share, .sc (.int .i64 ((i.1+1:Nat):Int)))]) (fun i=> [(1004, .arr 5 (D2 F0.enc default (itr (K7 vs) i.1 ([],0)).1)),(112, .box [.sc (.int .i64 (vs.getD 0 default).X), .sc (.int .i64 (vs.getD 0 default).Y)])]) (fun i=>(vs.length-2)-i.1) ⟨0,by omega⟩ ?_ ?_
 ·refine F9 [] [1004] ?_;simp only[go_sem,A4,A6,A3,A2,B6]
  all_goals exact F4
 ·rintro⟨i1,hi1⟩;dsimp only;generalize hs1:itr (K7 vs) i1 ([],0)=s1;have hl1_0:(s1.1).length≤((([],0):(List F0)×Int).1).length+1*i1:=by rw[←hs1];exact B1o (fun s:(List F0)×Int=>(s.1).length) 1 (fun i s=>by(unfold K7;(repeat' split) <;> simp <;> omega)) i1 _
  dsimp only[List.length_nil]at hl1_0;simp only[go_sem,A4,A6,A3,A2]
  (repeat(with_reducible refine And.intro ?_ ?_;focus (first |exact B0 |(exact ob_))))
  by_cases h1:(IntKind.i64.wrap (((i1+1:Nat):Int)+1))<(vs.length:Int)
  ·first |rw[if_pos h1] |rw[if_pos (by simp_all)] |rw[if_pos (by omega)]
   have hlt1:i1<(vs.length-2):=by first |omega |(simp only[IntKind.wrap_i64]at h1;omega)
   (repeat(with_reducible refine And.intro ?_ ?_;focus (first |exact B0 |(exact ob_))))
   refine A0 (M2 (IntKind.i64.wrap ((IntKind.i64.wrap ((IntKind.i64.wrap ((vs.getD (i1+1) default).X-(vs.getD 0 default).X))*(IntKind.i64.wrap ((vs.getD (IntKind.i64.wrap (((i1+1:Nat):Int)+1)).toNat default).Y-(vs.getD 0 default).Y))))-(IntKind.i64.wrap ((IntKind.i64.wrap ((vs.getD (i1+1) default).Y-(vs.getD 0 default).Y))*(IntKind.i64.wrap ((vs.getD (IntKind.i64.wrap (((i1+1:Nat):Int)+1)).toNat default).X-(vs.getD 0 default).X)))))) 65536) rfl ?_;generalize hv1:(Y1 (IntKind.i64.wrap ((IntKind.i64.wrap ((IntKind.i64.wrap ((vs.getD (i1+1) default).X-(vs.getD 0 default).X))*(IntKind.i64.wrap ((vs.getD (IntKind.i64.wrap (((i1+1:Nat):Int)+1)).toNat default).Y-(vs.getD 0 default).Y))))-(IntKind.i64.wrap ((IntKind.i64.wrap ((vs.getD (i1+1) default).Y-(vs.getD 0 default).Y))*(IntKind.i64.wrap ((vs.getD (IntKind.i64.wrap (((i1+1:Nat):Int)+1)).toNat default).X-(vs.getD 0 default).X)))))) 65536)=v1;simp only[go_sem,A4,A6,A3,A2]
   (repeat(with_reducible refine And.intro ?_ ?_;focus (first |exact B0 |(exact ob_))))
   have hn:itr (K7 vs) (i1+1) ([],0)=((s1.1++ [(⟨(⟨(IntKind.i64.wrap ((vs.getD (i1+1) default).X-(vs.getD 0 default).X)),(IntKind.i64.wrap ((vs.getD (i1+1) default).Y-(vs.getD 0 default).Y))⟩:Vec),(⟨(IntKind.i64.wrap ((vs.getD (IntKind.i64.wrap (((i1+1:Nat):Int)+1)).toNat default).X-(vs.getD 0 default).X)),(IntKind.i64.wrap ((vs.getD (IntKind.i64.wrap (((i1+1:Nat):Int)+1)).toNat default).Y-(vs.getD 0 default).Y))⟩:Vec),v1⟩:F0)]),(IntKind.i64.wrap (s1.2+v1))):=by rw[H7,hs1];first |with_reducible rfl |(unfold K7;exact hd_)
   refine B8 ⟨i1+1,by omega⟩ (by show(vs.length-2)-(i1+1)<(vs.length-2)-i1;omega) (F9 [] [] ?_);simp only[go_sem,A4,A6,A3,A2,hn]
   all_goals((try dsimp only);(repeat' (with_reducible apply And.intro)) <;> first |exact A3o ((⟨(⟨(IntKind.i64.wrap ((vs.getD (i1+1) default).X-(vs.getD 0 default).X)),(IntKind.i64.wrap ((vs.getD (i1+1) default).Y-(vs.getD 0 default).Y))⟩:Vec),(⟨(IntKind.i64.wrap ((vs.getD (IntKind.i64.wrap (((i1+1:Nat):Int)+1)).toNat default).X-(vs.getD 0 default).X)),(IntKind.i64.wrap ((vs.getD (IntKind.i64.wrap (((i1+1:Nat):Int)+1)).toNat default).Y-(vs.getD 0 default).Y))⟩:Vec),v1⟩:F0)) rfl rfl |exact F4)
  ·first |rw[if_neg h1] |rw[if_neg (by simp_all)] |rw[if_neg (by omega)]
   (repeat(with_reducible refine And.intro ?_ ?_;focus (first |exact B0 |(exact ob_))))
   have hge:i1=(vs.length-2):=by first |omega |(simp only[IntKind.wrap_i64]at h1;omega)
   subst hge;have hd:K1 vs=(s1.1,s1.2):=by first |with_reducible rfl |(unfold K1;exact hd_)
   try rw[hd]
   try simp only[go_sem,A4,A6,A3,A2]
   all_goals exact F4
def R3(vs:List Vec):Int:=let v1:=(F6 vs);if v1=false then(0)else(let v2:=(K1 vs);let v3:=(Y1 v2.2 2);v3)
theorem B5k(vs:List Vec)(hn:vs.length≤1048576):A5 Tryz.prog C7y [B4 2 Vec.enc default vs] [] (.sc (.int .i64 (R3 vs))) []:=by
 refine en1 hm A1 Tryz.func364 rfl rfl ?_;simp only[go_sem,A4,A6,A3,A2]
 (repeat(with_reducible refine And.intro ?_ ?_;focus (first |exact B0 |(exact ob_))))
 have p1:=B0y vs;refine A0 (A25 vs (by(first |assumption |omega |exact B0 |(simp_all;done) |(simp_all;omega)))) rfl ?_;generalize hv1:(F6 vs)=v1 at*;simp only[go_sem,A4,A6,A3,A2]
 (repeat(with_reducible refine And.intro ?_ ?_;focus (first |exact B0 |(exact ob_))))
 by_cases h2:v1=false
 ·first |rw[if_pos h2] |rw[if_pos (by simp_all)] |rw[if_pos (by omega)]
  (repeat(with_reducible refine And.intro ?_ ?_;focus (first |exact B0 |(exact ob_))))
  have hd:R3 vs=0:=by first |with_reducible rfl |(unfold R3;exact hd_)
  try rw[hd]
  try simp only[go_sem,A4,A6,A3,A2]
  all_goals exact F4
 ·first |rw[if_neg h2] |rw[if_neg (by simp_all)] |rw[if_neg (by omega)]
  (repeat(with_reducible refine And.intro ?_ ?_;focus (first |exact B0 |(exact ob_))))
  refine A0 (B7v vs (by(first |assumption |omega |exact B0 |(simp_all;done) |(simp_all;omega))) (by(first |assumption |omega |exact B0 |(simp_all;done) |(simp_all;omega)))) rfl ?_;generalize hv2:(K1 vs)=v2;simp only[go_sem,A4,A6,A3,A2]
  (repeat(with_reducible refine And.intro ?_ ?_;focus (first |exact B0 |(exact ob_))))
  refine A0 (M2 v2.2 2) rfl ?_;generalize hv3:(Y1 v2.2 2)=v3;simp only[go_sem,A4,A6,A3,A2]
  (repeat(with_reducible refine And.intro ?_ ?_;focus (first |exact B0 |(exact ob_))))
  have hd:R3 vs=v3:=by first |with_reducible rfl |(unfold R3;exact hd_)
  try rw[hd]
  try simp only[go_sem,A4,A6,A3,A2]
  all_goals exact F4
end Go.Abs
end
section
namespace Go.Abs
open Go.Proofs
open Api
def W1(vs:List Vec)(i2:Nat)(i3:Nat)(s3:Unit):(Unit) ⊕ (Bool):=let v2:=(ori (vs.getD i2 default) (vs.getD ((IntKind.i64.wrap ((i2:Int)+1)).tmod (vs.length:Int)).toNat default) (vs.getD i3 default));if((((i3:Int) != (i2:Int))&&((i3:Int) != ((IntKind.i64.wrap ((i2:Int)+1)).tmod (vs.length:Int))))&&(v2 != 1))=true then(.inr false)else(.inl ())
def T7(vs:List Vec)(i2:Nat)(s2:Unit):(Unit) ⊕ (Bool):=(match D0 (W1 vs i2) vs.length ()with | .inr r=> .inr r | .inl s3=> .inl ())
def S8(vs:List Vec)(i1:Nat)(s1:Unit):(Unit) ⊕ (Bool):=let v1:=(A3y (vs.getD i1 default));if v1=false then(.inr false)else(.inl ())
def J2(vs:List Vec):Bool:=if((decide ((vs.length:Int)<3))||(decide (8<(vs.length:Int))))=true then(false)else((match D0 (S8 vs) vs.length ()with | .inr r=>r | .inl s1=>(match D0 (T7 vs) vs.length ()with | .inr r=>r | .inl s2=>true)))
theorem A8w(vs:List Vec)(hn:vs.length≤1048576):A5 Tryz.prog C7h [B4 2 Vec.enc default vs] [] (.sc (.bool (J2 vs))) []:=by
 refine en1 hm A1 Tryz.func322 rfl rfl ?_;simp only[go_sem,A4,A6,A3,A2]
 (repeat(with_reducible refine And.intro ?_ ?_;focus (first |exact B0 |(exact ob_))))
 by_cases h1:((decide ((vs.length:Int)<3))||(decide (8<(vs.length:Int))))=true
 ·first |rw[if_pos h1] |rw[if_pos (by simp_all)] |rw[if_pos (by omega)]
  (repeat(with_reducible refine And.intro ?_ ?_;focus (first |exact B0 |(exact ob_))))
  have hd:J2 vs=false:=by first |with_reducible rfl |(unfold J2;exact hd_)
  try rw[hd]
  try simp only[go_sem,A4,A6,A3,A2]
  all_goals exact F4
 ·first |rw[if_neg h1] |rw[if_neg (by simp_all)] |rw[if_neg (by omega)]
  (repeat(with_reducible refine And.intro ?_ ?_;focus (first |exact B0 |(exact ob_))))
  refine C6 hm (ι:= {p:Nat×Unit // p.1≤vs.length∧D0 (S8 vs) p.1 ()= .inl p.2}) (fun i=> [(0, .share,B4 2 Vec.enc default vs),(3, .share, .sc (.int .i64 (vs.length:Int))),(4, .share, .sc (.int .i64 (i.1.1:Int)))]) (fun i=> []) (fun i=>vs.length-i.1.1) ⟨(0,()),by omega,rfl⟩ ?_ ?_
  ·refine F9 [] [] ?_;simp only[go_sem,A4,A6,A3,A2,B6]
   all_goals exact F4
  ·rintro⟨⟨i1,s1⟩,hi1,hs1⟩;replace hi1:i1≤vs.length:=hi1;replace hs1:D0 (S8 vs) i1 ()= .inl s1:=hs1;simp only[go_sem,A4,A6,A3,A2]
   (repeat(with_reducible refine And.intro ?_ ?_;focus (first |exact B0 |(exact ob_))))
   by_cases h2:(i1:Int)<(vs.length:Int)
   ·first |rw[if_pos h2] |rw[if_pos (by simp_all)] |rw[if_pos (by omega)]
    have hlt1:i1<vs.length:=by first |omega |(simp only[IntKind.wrap_i64]at h2;omega)
    (repeat(with_reducible refine And.intro ?_ ?_;focus (first |exact B0 |(exact ob_))))
    refine A0 (C89 (vs.getD i1 default)) rfl ?_;generalize hv1:(A3y (vs.getD i1 default))=v1;simp only[go_sem,A4,A6,A3,A2]
    (repeat(with_reducible refine And.intro ?_ ?_;focus (first |exact B0 |(exact ob_))))
    by_cases h3:v1=false
    ·first |rw[if_pos h3] |rw[if_pos (by simp_all)] |rw[if_pos (by omega)]
     (repeat(with_reducible refine And.intro ?_ ?_;focus (first |exact B0 |(exact ob_))))
     have e1:D0 (S8 vs) (i1+1) ()= .inr false:=K3 hs1 (by first |with_reducible rfl |(unfold S8;exact hd_));replace e1:=U5 e1 (show i1+1≤vs.length by omega);have hd:J2 vs=false:=by first |with_reducible rfl |(unfold J2;exact hd_)
     try rw[hd]
     try simp only[go_sem,A4,A6,A3,A2]
     all_goals exact F4
    ·first |rw[if_neg h3] |rw[if_neg (by simp_all)] |rw[if_neg (by omega)]
     (repeat(with_reducible refine And.intro ?_ ?_;focus (first |exact B0 |(exact ob_))))
     have hn:D0 (S8 vs) (i1+1) ()= .inl ():=K3 hs1 (by first |with_reducible rfl |(unfold S8;exact hd_));refine B8 ⟨(i1+1,()),by omega,hn⟩ (by show vs.length-(i1+1)<vs.length-i1;omega) (F9 [] [] ?_);simp only[go_sem,A4,A6,A3,A2]
     all_goals exact F4
   ·first |rw[if_neg h2] |rw[if_neg (by simp_all)] |rw[if_neg (by omega)]
    (repeat(with_reducible refine And.intro ?_ ?_;focus (first |exact B0 |(exact ob_))))
    have hge:i1=vs.length:=by first |omega |(simp only[IntKind.wrap_i64]at h2;omega)
    subst hge;refine C6 hm (ι:= {p:Nat×Unit // p.1≤vs.length∧D0 (T7 vs) p.1 ()= .inl p.2}) (fun i=> [(0, .share,B4 2 Vec.enc default vs),(3, .share, .sc (.int .i64 (vs.length:Int))),(5, .share, .sc (.int .i64 (i.1.1:Int)))]) (fun i=> []) (fun i=>vs.length-i.1.1) ⟨(0,()),by omega,rfl⟩ ?_ ?_
    ·refine F9 [] [] ?_;simp only[go_sem,A4,A6,A3,A2,B6]
     all_goals exact F4
    ·rintro⟨⟨i2,s2⟩,hi2,hs2⟩;replace hi2:i2≤vs.length:=hi2;replace hs2:D0 (T7 vs) i2 ()= .inl s2:=hs2;simp only[go_sem,A4,A6,A3,A2]
     (repeat(with_reducible refine And.intro ?_ ?_;focus (first |exact B0 |(exact ob_))))
     by_cases h4:(i2:Int)<(vs.length:Int)
     ·first |rw[if_pos h4] |rw[if_pos (by simp_all)] |rw[if_pos (by omega)]
      have hlt2:i2<vs.length:=by first |omega |(simp only[IntKind.wrap_i64]at h4;omega)
      (repeat(with_reducible refine And.intro ?_ ?_;focus (first |exact B0 |(exact ob_))))
      refine C6 hm (ι:= {p:Nat×Unit // p.1≤vs.length∧D0 (W1 vs i2) p.1 ()= .inl p.2}) (fun i=> [(0, .share,B4 2 Vec.enc default vs),(3, .share, .sc (.int .i64 (vs.length:Int))),(5, .share, .sc (.int .i64 (i2:Int))),(6, .share, .sc (.int .i64 ((IntKind.i64.wrap ((i2:Int)+1)).tmod (vs.length:Int)))),(7, .share, .sc (.int .i64 (i.1.1:Int)))]) (fun i=> []) (fun i=>vs.length-i.1.1) ⟨(0,()),by omega,rfl⟩ ?_ ?_
      ·refine F9 [] [] ?_;simp only[go_sem,A4,A6,A3,A2,B6]
       all_goals exact F4
      ·rintro⟨⟨i3,s3⟩,hi3,hs3⟩;replace hi3:i3≤vs.length:=hi3;replace hs3:D0 (W1 vs i2) i3 ()= .inl s3:=hs3;simp only[go_sem,A4,A6,A3,A2]
       (repeat(with_reducible refine And.intro ?_ ?_;focus (first |exact B0 |(exact ob_))))
       by_cases h5:(i3:Int)<(vs.length:Int)
       ·first |rw[if_pos h5] |rw[if_pos (by simp_all)] |rw[if_pos (by omega)]
        have hlt3:i3<vs.length:=by first |omega |(simp only[IntKind.wrap_i64]at h5;omega)
        (repeat(with_reducible refine And.intro ?_ ?_;focus (first |exact B0 |(exact ob_))))
        refine A0 (C1v (vs.getD i2 default) (vs.getD ((IntKind.i64.wrap ((i2:Int)+1)).tmod (vs.length:Int)).toNat default) (vs.getD i3 default)) rfl ?_;generalize hv2:(ori (vs.getD i2 default) (vs.getD ((IntKind.i64.wrap ((i2:Int)+1)).tmod (vs.length:Int)).toNat default) (vs.getD i3 default))=v2;simp only[go_sem,A4,A6,A3,A2]
        (repeat(with_reducible refine And.intro ?_ ?_;focus (first |exact B0 |(exact ob_))))
        by_cases h6:((((i3:Int) != (i2:Int))&&((i3:Int) != ((IntKind.i64.wrap ((i2:Int)+1)).tmod (vs.length:Int))))&&(v2 != 1))=true
        ·first |rw[if_pos h6] |rw[if_pos (by simp_all)] |rw[if_pos (by omega)]
         (repeat(with_reducible refine And.intro ?_ ?_;focus (first |exact B0 |(exact ob_))))
         have e3:D0 (W1 vs i2) (i3+1) ()= .inr false:=K3 hs3 (by first |with_reducible rfl |(unfold W1;exact hd_));replace e3:=U5 e3 (show i3+1≤vs.length by omega);have e2:D0 (T7 vs) (i2+1) ()= .inr false:=K3 hs2 (by first |with_reducible rfl |(unfold T7;exact hd_));replace e2:=U5 e2 (show i2+1≤vs.length by omega);have hd:J2 vs=false:=by first |with_reducible rfl |(unfold J2;exact hd_)
         try rw[hd]
         try simp only[go_sem,A4,A6,A3,A2]
         all_goals exact F4
        ·first |rw[if_neg h6] |rw[if_neg (by simp_all)] |rw[if_neg (by omega)]
         (repeat(with_reducible refine And.intro ?_ ?_;focus (first |exact B0 |(exact ob_))))
         have hn:D0 (W1 vs i2) (i3+1) ()= .inl ():=K3 hs3 (by first |with_reducible rfl |(unfold W1;exact hd_));refine B8 ⟨(i3+1,()),by omega,hn⟩ (by show vs.length-(i3+1)<vs.length-i3;omega) (F9 [] [] ?_);simp only[go_sem,A4,A6,A3,A2]
         all_goals exact F4
       ·first |rw[if_neg h5] |rw[if_neg (by simp_all)] |rw[if_neg (by omega)]
        (repeat(with_reducible refine And.intro ?_ ?_;focus (first |exact B0 |(exact ob_))))
        have hge:i3=vs.length:=by first |omega |(simp only[IntKind.wrap_i64]at h5;omega)
        subst hge;have hn:D0 (T7 vs) (i2+1) ()= .inl ():=K3 hs2 (by first |with_reducible rfl |(unfold T7;exact hd_));refine B8 ⟨(i2+1,()),by omega,hn⟩ (by show vs.length-(i2+1)<vs.length-i2;omega) (F9 [] [] ?_);simp only[go_sem,A4,A6,A3,A2]
        all_goals exact F4
     ·first |rw[if_neg h4] |rw[if_neg (by simp_all)] |rw[if_neg (by omega)]
      (repeat(with_reducible refine And.intro ?_ ?_;focus (first |exact B0 |(exact ob_))))
      have hge:i2=vs.length:=by first |omega |(simp only[IntKind.wrap_i64]at h4;omega)
      subst hge;have hd:J2 vs=true:=by first |with_reducible rfl |(unfold J2;exact hd_)
      try rw[hd]
      try simp only[go_sem,A4,A6,A3,A2]
      all_goals exact F4
def L8(vs:List Vec)(i1:Nat)(s1:Int):Int:=let v2:=(J8 (vs.getD ((IntKind.i64.wrap ((i1:Int)+1)).tmod (vs.length:Int)).toNat default) (vs.getD i1 default));let v3:=(A4c v2);if((decide (s1<0))||(decide (v3<s1)))=true then(v3)else(s1)
def A1a(vs:List Vec):Int:=let v1:=(J2 vs);if v1=false then(0)else(let s1:=itr (L8 vs) vs.length (-1);s1)
theorem B97(vs:List Vec)(hn:vs.length≤1048576):A5 Tryz.prog B96 [B4 2 Vec.enc default vs] [] (.sc (.int .i64 (A1a vs))) []:=by
 refine en1 hm A1 Tryz.func323 rfl rfl ?_;have:=A8w
 have:=C8h
 have:=B2e
 have:=A1a.eq_1 vs
 have:=fun i_ s_=>L8.eq_1 vs i_ s_
 have:=fun x_ Q_ σ_=> @lp_ Tryz.prog Tryz.f323.ntmps [] x_ Q_ σ_ hm (fun _=>True) (fun _=>True) vs.length (fun i_=> [(0, .share,B4 2 Vec.enc default vs),(3, .share, .sc (.int .i64 (itr (L8 vs) i_ (-1)))),(4, .share, .sc (.int .i64 (i_:Int)))]) (fun i_=> []) [] trivial (fun _ _=>trivial) (by simp[go_sem]) (by simp[go_sem,A9]) (by simp[go_sem]);exact A2x
def A6l(vs:List Vec)(i:Int):Int:=let v1:=(Y1 (IntKind.i64.wrap ((IntKind.i64.wrap ((IntKind.i64.wrap ((vs.getD i.toNat default).X-(vs.getD 0 default).X))*(IntKind.i64.wrap ((vs.getD (IntKind.i64.wrap (i+1)).toNat default).Y-(vs.getD 0 default).Y))))-(IntKind.i64.wrap ((IntKind.i64.wrap ((vs.getD i.toNat default).Y-(vs.getD 0 default).Y))*(IntKind.i64.wrap ((vs.getD (IntKind.i64.wrap (i+1)).toNat default).X-(vs.getD 0 default).X)))))) 65536);v1
theorem D3u(vs:List Vec)(i:Int)(hn:vs.length≤1048576)(h0:1≤i)(h1:i+1<(vs.length:Int)):A5 Tryz.prog D4r [B4 2 Vec.enc default vs, .sc (.int .i64 i)] [] (.sc (.int .i64 (A6l vs i))) []:=by
 refine en1 hm A1 Tryz.func424 rfl rfl ?_;have:=B4n
 have:=A6l.eq_1 vs i;exact D3
def A1p(vs:List Vec)(i1:Nat)(s1:Int):Int:=let v2:=(A6l vs ((i1+1:Nat):Int));(IntKind.i64.wrap (s1+v2))
def A22(vs:List Vec):Int:=let v1:=(J2 vs);if v1=false then(0)else(let s1:=itr (A1p vs) (vs.length-2) 0;let v3:=(Y1 s1 2);v3)
theorem D6c(vs:List Vec)(hn:vs.length≤1048576):A5 Tryz.prog D52 [B4 2 Vec.enc default vs] [] (.sc (.int .i64 (A22 vs))) []:=by
 refine en1 hm A1 Tryz.func324 rfl rfl ?_;simp only[go_sem,A4,A6,A3,A2]
 (repeat(with_reducible refine And.intro ?_ ?_;focus (first |exact B0 |(exact ob_))))
 refine A0 (A8w vs (by(first |assumption |omega |exact B0 |(simp_all;done) |(simp_all;omega)))) rfl ?_;generalize hv1:(J2 vs)=v1;simp only[go_sem,A4,A6,A3,A2]
 (repeat(with_reducible refine And.intro ?_ ?_;focus (first |exact B0 |(exact ob_))))
 by_cases h1:v1=false
 ·first |rw[if_pos h1] |rw[if_pos (by simp_all)] |rw[if_pos (by omega)]
  (repeat(with_reducible refine And.intro ?_ ?_;focus (first |exact B0 |(exact ob_))))
  have hd:A22 vs=0:=by first |with_reducible rfl |(unfold A22;exact hd_)
  try rw[hd]
  try simp only[go_sem,A4,A6,A3,A2]
  all_goals exact F4
 ·first |rw[if_neg h1] |rw[if_neg (by simp_all)] |rw[if_neg (by omega)]
  (repeat(with_reducible refine And.intro ?_ ?_;focus (first |exact B0 |(exact ob_))))
  refine C6 hm (ι:= {i:Nat // i≤(vs.length-2)}) (fun i=> [(0, .share,B4 2 Vec.enc default vs),(3, .share, .sc (.int .i64 (itr (A1p vs) i.1 0))),(4, .share, .sc (.int .i64 ((i.1+1:Nat):Int)))]) (fun i=> []) (fun i=>(vs.length-2)-i.1) ⟨0,by omega⟩ ?_ ?_
  ·refine F9 [] [] ?_;simp only[go_sem,A4,A6,A3,A2,B6]
   all_goals exact F4
  ·rintro⟨i1,hi1⟩;dsimp only;generalize hs1:itr (A1p vs) i1 0=s1;simp only[go_sem,A4,A6,A3,A2]
   (repeat(with_reducible refine And.intro ?_ ?_;focus (first |exact B0 |(exact ob_))))
   by_cases h2:(IntKind.i64.wrap (((i1+1:Nat):Int)+1))<(vs.length:Int)
   ·first |rw[if_pos h2] |rw[if_pos (by simp_all)] |rw[if_pos (by omega)]
    have hlt1:i1<(vs.length-2):=by first |omega |(simp only[IntKind.wrap_i64]at h2;omega)
    (repeat(with_reducible refine And.intro ?_ ?_;focus (first |exact B0 |(exact ob_))))
    refine A0 (D3u vs ((i1+1:Nat):Int) (by(first |assumption |omega |exact B0 |(simp_all;done) |(simp_all;omega))) (by(first |assumption |omega |exact B0 |(simp_all;done) |(simp_all;omega))) (by(first |assumption |omega |exact B0 |(simp_all;done) |(simp_all;omega)))) rfl ?_;generalize hv2:(A6l vs ((i1+1:Nat):Int))=v2;simp only[go_sem,A4,A6,A3,A2]
    (repeat(with_reducible refine And.intro ?_ ?_;focus (first |exact B0 |(exact ob_))))
    have hn:itr (A1p vs) (i1+1) 0=(IntKind.i64.wrap (s1+v2)):=by rw[H7,hs1];first |with_reducible rfl |(unfold A1p;exact hd_)
    refine B8 ⟨i1+1,by omega⟩ (by show(vs.length-2)-(i1+1)<(vs.length-2)-i1;omega) (F9 [] [] ?_);simp only[go_sem,A4,A6,A3,A2,hn]
    all_goals exact F4
   ·first |rw[if_neg h2] |rw[if_neg (by simp_all)] |rw[if_neg (by omega)]
    (repeat(with_reducible refine And.intro ?_ ?_;focus (first |exact B0 |(exact ob_))))
    have hge:i1=(vs.length-2):=by first |omega |(simp only[IntKind.wrap_i64]at h2;omega)
    subst hge;refine A0 (B4n s1 2) rfl ?_;generalize hv3:(Y1 s1 2)=v3;simp only[go_sem,A4,A6,A3,A2]
    (repeat(with_reducible refine And.intro ?_ ?_;focus (first |exact B0 |(exact ob_))))
    have hd:A22 vs=v3:=by first |with_reducible rfl |(unfold A22;exact hd_)
    try rw[hd]
    try simp only[go_sem,A4,A6,A3,A2]
    all_goals exact F4
end Go.Abs
end
section
namespace Go.Abs
open Go.Proofs
open Api
def A3w(b:Body):Bool:=let v1:=(A2b b.Velocity 16777216);let v3:=(A2b b.Force 536870911);let v9:=(Q5 b.Transform);(((((((inR b.ID 1 1099511627776)&&v9)&&(v1&&(inR b.AngularVelocity (-4194304) 4194304)))&&(v3&&(inR b.Torque (-536870911) 536870911)))&&((inR b.LinearDamping 0 65536)&&(inR b.AngularDamping 0 65536)))&&(inR b.GravityScale (-262144) 262144))&&(inR b.IdleSteps 0 1048576))
theorem C6s(b:Body):A5 Tryz.prog C7e [.agg b.enc] [] (.sc (.bool (A3w b))) []:=by
 refine en1 hm A1 Tryz.func213 rfl rfl ?_;have:=C79
 have:=B0k
 have:=A6i
 have:=A3w.eq_1 b;exact D3
def A2r(b:Body):Bool:=let v2:=(Q5 b.Transform);if(((((!(inR b.ID 1 1099511627776))||(!v2))||(!(inR b.Velocity.X (-16777216) 16777216)))||(!(inR b.Velocity.Y (-16777216) 16777216)))||(!(inR b.AngularVelocity (-4194304) 4194304)))=true then(false)else(if(((!(inR b.Force.X (-536870911) 536870911))||(!(inR b.Force.Y (-536870911) 536870911)))||(!(inR b.Torque (-536870911) 536870911)))=true then(false)else(((((inR b.LinearDamping 0 65536)&&(inR b.AngularDamping 0 65536))&&(inR b.GravityScale (-262144) 262144))&&(inR b.IdleSteps 0 1048576))))
theorem C83(b:Body):A5 Tryz.prog C81 [.agg b.enc] [] (.sc (.bool (A2r b))) []:=by
 refine en1 hm A1 Tryz.func104 rfl rfl ?_;have:=D2g
 have:=D34
 have:=A2r.eq_1 b;exact D3
def J9(k:Int):Int×Int:=if(k==1)=true then((0,268435456))else(if(k==2)=true then(((-205888),205888))else(((-268435456),268435456)))
theorem A9y(k:Int):A5 Tryz.prog C0c [.sc (.int .i64 k)] [] (.tup [.sc (.int .i64 (J9 k).1), .sc (.int .i64 (J9 k).2)]) []:=by refine enT hm A1 Tryz.func330 rfl rfl ?_;have:=J9.eq_1 k;exact D3
def J6(v:Vec)(limit:Int):Bool:=((inR v.X (IntKind.i64.wrap (0-limit)) limit)&&(inR v.Y (IntKind.i64.wrap (0-limit)) limit))
theorem A13(v:Vec)(limit:Int):A5 Tryz.prog B56 [.agg v.enc, .sc (.int .i64 limit)] [] (.sc (.bool (J6 v limit))) []:=by
 refine en1 hm A1 Tryz.func332 rfl rfl ?_;have:=F1
 have:=J6.eq_1 v limit;exact D3
def A2n(j:Joint):Bool:=if(j.Kind==5)=true then(((j.BodyA==0)&&(inR j.BodyB 1 1099511627776)))else((((inR j.BodyA 1 1099511627776)&&(inR j.BodyB 1 1099511627776))&&(j.BodyA != j.BodyB)))
theorem B70(j:Joint):A5 Tryz.prog B7z [.agg j.enc] [] (.sc (.bool (A2n j))) []:=by
 refine en1 hm A1 Tryz.func217 rfl rfl ?_;have:=F1
 have:=A2n.eq_1 j;exact D3
def A14(j:Joint):Bool:=if(j.Kind==3)=true then(let v1:=(A4c j.Axis);(!(inR v1 65520 65552)))else(if(j.Kind==1)=true then((((!((j.Axis.X==0)&&(j.Axis.Y==0)))||j.EnableMotor)||(!j.EnableLimit)))else(if(j.Kind==4)=true then((((!((j.Axis.X==0)&&(j.Axis.Y==0)))||j.EnableMotor)||j.EnableLimit))else(if(j.Kind==5)=true then((((!((j.Axis.X==0)&&(j.Axis.Y==0)))||j.EnableMotor)||j.EnableLimit))else((!((j.Axis.X==0)&&(j.Axis.Y==0)))))))
theorem B6x(j:Joint):A5 Tryz.prog B6l [.agg j.enc] [] (.sc (.bool (A14 j))) []:=by
 refine en1 hm A1 Tryz.func218 rfl rfl ?_;have:=A1w
 have:=F1
 have:=A14.eq_1 j;exact D3
def Q8(v:Vec)(m:Int):Bool:=((inR v.X (IntKind.i64.wrap (0-m)) m)&&(inR v.Y (IntKind.i64.wrap (0-m)) m))
theorem A57(v:Vec)(m:Int):A5 Tryz.prog C6x [.agg v.enc, .sc (.int .i64 m)] [] (.sc (.bool (Q8 v m))) []:=by
 refine en1 hm A1 Tryz.func209 rfl rfl ?_;have:=K2
 have:=Q8.eq_1 v m;exact D3
def T4(j:Joint):Bool:=if(((!(inR j.Lower (-268435456) 268435456))||(!(inR j.Upper (-268435456) 268435456)))||(decide (j.Upper<j.Lower)))=true then(false)else(if(j.Kind==1)=true then((decide (0≤j.Lower)))else(((j.Kind != 2)||((decide ((-205888)≤j.Lower))&&(decide (j.Upper≤205888))))))
theorem B0t(j:Joint):A5 Tryz.prog C1w [.agg j.enc] [] (.sc (.bool (T4 j))) []:=by
 refine en1 hm A1 Tryz.func210 rfl rfl ?_;have:=K2
 have:=T4.eq_1 j;exact D3
def A16(a:B2)(b:B2):Bool:=if(a.BodyA != b.BodyA)=true then((decide (a.BodyA<b.BodyA)))else(if(a.FixtureA != b.FixtureA)=true then((decide (a.FixtureA<b.FixtureA)))else(if(a.BodyB != b.BodyB)=true then((decide (a.BodyB<b.BodyB)))else((decide (a.FixtureB<b.FixtureB)))))
theorem D6d(a:B2)(b:B2):A5 Tryz.prog D67 [.agg a.enc, .agg b.enc] [] (.sc (.bool (A16 a b))) []:=by refine en1 hm A1 Tryz.func109 rfl rfl ?_;have:=A16.eq_1 a b;exact D3
def Z7(v:Vec):Bool:=((inR v.X (-536870911) 536870911)&&(inR v.Y (-536870911) 536870911))
theorem B2x(v:Vec):A5 Tryz.prog C5r [.agg v.enc] [] (.sc (.bool (Z7 v))) []:=by
 refine en1 hm A1 Tryz.func111 rfl rfl ?_;have:=B7d
 have:=Z7.eq_1 v;exact D3
end Go.Abs
end
section
namespace Go.Abs
open Go.Proofs
open Api
theorem C1k:okO []:=⟨by simp,by simp⟩
def A1o(x:Int):Bool:=(x != x)
theorem C5o(x:Int):A5 Tryz.prog C6c [.sc (.int .i64 x)] [] (.sc (.bool (A1o x))) []:=by refine en1 hm A1 Tryz.func301 rfl rfl ?_;have:=A1o.eq_1 x;exact D3
def E6(x:Int)(y:Int):Int:=let v1:=(A1o x);let v2:=(A1o y);if v1=true then(if v2=true then(0)else((-1)))else(if v2=true then(1)else(if x<y then((-1))else(if y<x then(1)else(0))))
theorem W0(x:Int)(y:Int):A5 Tryz.prog C1q [.sc (.int .i64 x), .sc (.int .i64 y)] [] (.sc (.int .i64 (E6 x y))) []:=by
 refine en1 hm A1 Tryz.func237 rfl rfl ?_;have:=C5o
 have:=E6.eq_1 x y;exact D3
def A1l(l:List Int)(i1:Nat)(s1:Unit):(Unit) ⊕ (Int):=if((l.getD i1 0) != 0)=true then(.inr (l.getD i1 0))else(.inl ())
def W9(l:List Int):Int:=(match D0 (A1l l) l.length ()with | .inr r=>r | .inl s1=>0)
theorem B9c(l:List Int)(hl:l.length≤1048576):A5 Tryz.prog D17 [B4 1 K4 0 l] [] (.sc (.int .i64 (W9 l))) []:=by
 refine en1 hm A1 Tryz.func236 rfl rfl ?_;have:=W9.eq_1 l
 have:=fun i_ s_=>A1l.eq_1 l i_ s_
 have:=fun x_ Q_ σ_=> @lp_ Tryz.prog Tryz.f236.ntmps [] x_ Q_ σ_ hm (IE (A1l l) ()) (fun _=>True) l.length (fun i_=> [(3, .share, .sc (.int .i64 0)),(6, .share,B4 1 K4 0 l),(7, .share, .sc (.int .i64 (l.length:Int))),(8, .share, .sc (.int .i64 (i_:Int)))]) (fun i_=> []) [] rfl (fun _ _=>trivial) (by simp[go_sem]) (by simp[go_sem,A9]) (by simp[go_sem]);exact A2x
def A0f(a:B2)(b:B2):Int:=let v1:=(E6 a.BodyA b.BodyA);let v2:=(E6 a.FixtureA b.FixtureA);let v3:=(E6 a.BodyB b.BodyB);let v4:=(E6 a.FixtureB b.FixtureB);let v5:=(W9 ([v1,v2,v3,v4]));v5
theorem B7g(a:B2)(b:B2):A5 Tryz.prog B5r [.agg a.enc, .agg b.enc] [] (.sc (.int .i64 (A0f a b))) []:=by
 refine en1 hm A1 Tryz.func267 rfl rfl ?_;simp only[go_sem,A4,A6,A3,A2]
 (repeat(with_reducible refine And.intro ?_ ?_;focus (first |exact B0 |(exact ob_))))
 refine A0 (W0 a.BodyA b.BodyA) rfl ?_;generalize hv1:(E6 a.BodyA b.BodyA)=v1;simp only[go_sem,A4,A6,A3,A2]
 (repeat(with_reducible refine And.intro ?_ ?_;focus (first |exact B0 |(exact ob_))))
 refine A0 (W0 a.FixtureA b.FixtureA) rfl ?_;generalize hv2:(E6 a.FixtureA b.FixtureA)=v2;simp only[go_sem,A4,A6,A3,A2]
 (repeat(with_reducible refine And.intro ?_ ?_;focus (first |exact B0 |(exact ob_))))
 refine A0 (W0 a.BodyB b.BodyB) rfl ?_;generalize hv3:(E6 a.BodyB b.BodyB)=v3;simp only[go_sem,A4,A6,A3,A2]
 (repeat(with_reducible refine And.intro ?_ ?_;focus (first |exact B0 |(exact ob_))))
 refine A0 (W0 a.FixtureB b.FixtureB) rfl ?_;generalize hv4:(E6 a.FixtureB b.FixtureB)=v4;simp only[go_sem,A4,A6,A3,A2]
 (repeat(with_reducible refine And.intro ?_ ?_;focus (first |exact B0 |(exact ob_))))
 refine A04 (B9c ([v1,v2,v3,v4]) (by(first |assumption |omega |exact B0 |(simp_all;done) |(simp_all;omega)))) rfl ?_ ?_
 ·(try simp only[P9,go_sem,A4,A6,A3,A2]);all_goals((repeat' (with_reducible apply And.intro)) <;> first |with_reducible rfl |trivial |exact R5 (fun _ _=>rfl) rfl rfl rfl |exact C1 rfl |exact A2w _ |rfl)
 generalize hv5:(W9 ([v1,v2,v3,v4]))=v5;simp only[go_sem,A4,A6,A3,A2]
 (repeat(with_reducible refine And.intro ?_ ?_;focus (first |exact B0 |(exact ob_))))
 have hd:A0f a b=v5:=by first |with_reducible rfl |(unfold A0f;exact hd_)
 try rw[hd]
 try simp only[go_sem,A4,A6,A3,A2]
 all_goals exact F4
def A10(a:B2)(b:B2):Bool:=let v1:=(A0f a b);(decide (v1<0))
theorem B0s(a:B2)(b:B2):A5 Tryz.prog C1n [.agg a.enc, .agg b.enc] [] (.sc (.bool (A10 a b))) []:=by
 refine en1 hm A1 Tryz.func225 rfl rfl ?_;have:=B7g
 have:=A10.eq_1 a b;exact D3
def H6(l:List B2)(i1:Nat)(s1:Int×Int×Int×Int):(Int×Int×Int×Int) ⊕ (Bool):=let v1:=(A1f (l.getD i1 default));let v2:=(A10 (⟨s1.1,s1.2.1,s1.2.2.1,s1.2.2.2⟩:B2) (l.getD i1 default));if((!v1)||((decide (0<(i1:Int)))&&((((l.getD i1 default).BodyA==s1.1)&&(((l.getD i1 default).FixtureA==s1.2.1)&&(((l.getD i1 default).BodyB==s1.2.2.1)&&((l.getD i1 default).FixtureB==s1.2.2.2))))||(!v2))))=true then(.inr false)else(.inl ((l.getD i1 default).BodyA,(l.getD i1 default).FixtureA,(l.getD i1 default).BodyB,(l.getD i1 default).FixtureB))
def J3(l:List B2):Bool:=(match D0 (H6 l) l.length (0,0,0,0)with | .inr r=>r | .inl s1=>true)
theorem A6n(l:List B2)(hl:l.length≤1048576):A5 Tryz.prog B3n [B4 4 B2.enc default l] [] (.sc (.bool (J3 l))) []:=by
 refine en1 hm A1 Tryz.func117 rfl rfl ?_;have:=fun x1 x2 x3 x4 x5=>cx_ (B0s ⟨x1,x2,x3,x4⟩ x5)
 have:=B9y
 have:=B0s
 have:=J3.eq_1 l
 have:=fun i_ s_=>H6.eq_1 l i_ s_
 have:=fun x_ Q_ σ_=> @lp_ Tryz.prog Tryz.f117.ntmps [] x_ Q_ σ_ hm (IE (H6 l) (0,0,0,0)) (fun _=>True) l.length (fun i_=> [(3, .share, .ptr 64 0 0 1),(7, .share,B4 4 B2.enc default l),(8, .share, .sc (.int .i64 (l.length:Int))),(9, .share, .sc (.int .i64 (i_:Int)))]) (fun i_=> [(64, .box [.sc (.int .i64 (stE (H6 l) i_ (0,0,0,0)).1), .sc (.int .i64 (stE (H6 l) i_ (0,0,0,0)).2.1), .sc (.int .i64 (stE (H6 l) i_ (0,0,0,0)).2.2.1), .sc (.int .i64 (stE (H6 l) i_ (0,0,0,0)).2.2.2)])]) [] rfl (fun _ _=>trivial) (by simp[go_sem]) (by simp[go_sem,A9]) (by simp[go_sem]);exact A2x
def Y3(l:List B2)(i1:Nat)(s1:Unit):(Unit) ⊕ (Bool):=let v1:=(A16 (l.getD (IntKind.i64.wrap ((i1:Int)-1)).toNat default) (l.getD i1 default));if((((((decide ((l.getD i1 default).BodyB≤(l.getD i1 default).BodyA))||(decide ((l.getD i1 default).FixtureA<0)))||(decide (3<(l.getD i1 default).FixtureA)))||(decide ((l.getD i1 default).FixtureB<0)))||(decide (3<(l.getD i1 default).FixtureB)))||((decide (0<(i1:Int)))&&(!v1)))=true then(.inr false)else(.inl ())
def M9(l:List B2):Bool:=(match D0 (Y3 l) l.length ()with | .inr r=>r | .inl s1=>true)
theorem B28(l:List B2)(hl:l.length≤1048576):A5 Tryz.prog C6d [B4 4 B2.enc default l] [] (.sc (.bool (M9 l))) []:=by
 refine en1 hm A1 Tryz.func53 rfl rfl ?_;have:=D6d
 have:=M9.eq_1 l
 have:=fun i_ s_=>Y3.eq_1 l i_ s_
 have:=fun x_ Q_ σ_=> @lp_ Tryz.prog Tryz.f53.ntmps [] x_ Q_ σ_ hm (IE (Y3 l) ()) (fun _=>True) l.length (fun i_=> [(0, .share,B4 4 B2.enc default l),(3, .share, .sc (.int .i64 (i_:Int)))]) (fun i_=> []) [] rfl (fun _ _=>trivial) (by simp[go_sem]) (by simp[go_sem,A9]) (by simp[go_sem]);exact A2x
def W8(v:Vec):Bool:=let v1:=(A1g v.X);let v2:=(A1g v.Y);(v1||v2)
theorem B8d(v:Vec):A5 Tryz.prog A8s [.agg v.enc] [] (.sc (.bool (W8 v))) []:=by
 refine en1 hm A1 Tryz.func360 rfl rfl ?_;have:=B9h
 have:=W8.eq_1 v;exact D3
def J7(s:Shape):Int:=if((decide (s.Kind<1))||(decide (3<s.Kind)))=true then(10)else(let v1:=(R4 s);if v1=false then(11)else(if(s.Vertices.any (fun x=>(W8 x)))=true then(6)else(if((s.Kind==3)&&(s.Radius != 0))=true then(if((s.Kind==3)&&(s.Radius != 0))=true then(6)else(let v2:=(J8 (s.Vertices.getD 1 default) (s.Vertices.getD 0 default));let v3:=(A4c v2);if((s.Kind==2)&&(decide (v3<4096)))=true then(12)else(let v4:=(F6 s.Vertices);let v5:=(S4 s.Vertices);let v6:=(R3 s.Vertices);if((s.Kind==3)&&(((!v4)||(decide (v5<4096)))||(decide (v6<256))))=true then(12)else(0))))else(if((s.Kind != 3)&&((decide (s.Radius<2048))||(decide (524288<s.Radius))))=true then(6)else(let v7:=(J8 (s.Vertices.getD 1 default) (s.Vertices.getD 0 default));let v8:=(A4c v7);if((s.Kind==2)&&(decide (v8<4096)))=true then(12)else(let v9:=(F6 s.Vertices);let v10:=(S4 s.Vertices);let v11:=(R3 s.Vertices);if((s.Kind==3)&&(((!v9)||(decide (v10<4096)))||(decide (v11<256))))=true then(12)else(0)))))))
theorem A67(s:Shape)(hn:s.Vertices.length≤1048576):A5 Tryz.prog C4e [.agg s.enc] [] (.sc (.int .i64 (J7 s))) []:=by
 refine en1 hm A1 Tryz.func239 rfl rfl ?_;have:=E5x s
 have:=C0p
 have:=(B02 s.Vertices A8s [] [] [] (fun x=>(W8 x)) (by(first |assumption |omega |exact B0 |(simp_all;done) |(simp_all;omega))) C1k (by simp[AV.ids,C9]) (fun x _=>B8d x))
 have:=N4
 have:=A1w
 have:=B0y s.Vertices
 have:=A25
 have:=B3z
 have:=B5k
 have:=J7.eq_1 s;exact D3
def A3k(s:Shape)(i1:Nat)(s1:Unit):(Unit) ⊕ (Int):=if((!(inR (s.Vertices.getD i1 default).X (-1048576) 1048576))||(!(inR (s.Vertices.getD i1 default).Y (-1048576) 1048576)))=true then(.inr 6)else(.inl ())
def A3q(s:Shape):Int:=if((decide (s.Kind<1))||(decide (3<s.Kind)))=true then(10)else(let v1:=(U7 s);if v1=false then(11)else((match D0 (A3k s) s.Vertices.length ()with | .inr r=>r | .inl s1=>if(((s.Kind==3)&&(s.Radius != 0))||((s.Kind != 3)&&((decide (s.Radius<2048))||(decide (524288<s.Radius)))))=true then(6)else(let v4:=(J8 (s.Vertices.getD 1 default) (s.Vertices.getD 0 default));let v5:=(A4c v4);if((s.Kind==2)&&(decide (v5<4096)))=true then(12)else(let v6:=(J2 s.Vertices);let v7:=(A1a s.Vertices);let v8:=(A22 s.Vertices);if((s.Kind==3)&&(((!v6)||(decide (v7<4096)))||(decide (v8<256))))=true then(12)else(0))))))
theorem C6n(s:Shape)(hn:s.Vertices.length≤1048576):A5 Tryz.prog C7c [.agg s.enc] [] (.sc (.int .i64 (A3q s))) []:=by
 refine en1 hm A1 Tryz.func208 rfl rfl ?_;have:=E68 s
 have:=B8q
 have:=D11
 have:=C8h
 have:=B2e
 have:=A8w
 have:=B97
 have:=D6c
 have:=A3q.eq_1 s
 have:=fun i_ s_=>A3k.eq_1 s i_ s_
 have:=fun x_ Q_ σ_=> @lp_ Tryz.prog Tryz.f208.ntmps [] x_ Q_ σ_ hm (IE (A3k s) ()) (fun _=>True) s.Vertices.length (fun i_=> [(1, .share, .ptr 32 0 0 1),(3, .share, .sc (.int .i64 (i_:Int)))]) (fun i_=> [(32, .box [.sc (.int .i64 s.Kind), .sc (.int .i64 s.Radius),B4 2 Vec.enc default s.Vertices])]) [] rfl (fun _ _=>trivial) (by simp[go_sem]) (by simp[go_sem,A9]) (by simp[go_sem]);exact A2x
def X0(f:Fixture):Int:=let v1:=(J7 f.Shape);if(v1 != 0)=true then(v1)else(if((!(((inR f.Density 0 262144)&&(inR f.Friction 0 131072))&&(inR f.Restitution 0 65536)))||(!(((inR f.Category 0 65535)&&(inR f.Mask 0 65535))&&(inR f.Group (-32) 32))))=true then(6)else(0))
theorem B32(f:Fixture)(hn:f.Shape.Vertices.length≤1048576):A5 Tryz.prog B4i [.agg f.enc] [] (.sc (.int .i64 (X0 f))) []:=by
 refine en1 hm A1 Tryz.func214 rfl rfl ?_;have:=A67
 have:=B0k
 have:=X0.eq_1 f;exact D3
def Y5(f:Fixture):Int:=let v1:=(A3q f.Shape);if(v1 != 0)=true then(v1)else(if((((((!(inR f.Density 0 262144))||(!(inR f.Friction 0 131072)))||(!(inR f.Restitution 0 65536)))||(!(inR f.Category 0 65535)))||(!(inR f.Mask 0 65535)))||(!(inR f.Group (-32) 32)))=true then(6)else(0))
theorem B42(f:Fixture)(hn:f.Shape.Vertices.length≤1048576):A5 Tryz.prog B4r [.agg f.enc] [] (.sc (.int .i64 (Y5 f))) []:=by
 refine en1 hm A1 Tryz.func105 rfl rfl ?_;have:=C6n
 have:=D2g
 have:=Y5.eq_1 f;exact D3
def A0i(n:Int):Bool:=(!(inR n (-536870911) 536870911))
theorem B63(n:Int):A5 Tryz.prog A7u [.sc (.int .i64 n)] [] (.sc (.bool (A0i n))) []:=by
 refine en1 hm A1 Tryz.func333 rfl rfl ?_;have:=B7f
 have:=A0i.eq_1 n;exact D3
def T5(l:List Int):Bool:=(!(l.any (fun x=>(A0i x))))
theorem B0v(l:List Int)(hl:l.length≤1048576):A5 Tryz.prog C19 [B4 1 K4 0 l] [] (.sc (.bool (T5 l))) []:=by
 refine en1 hm A1 Tryz.func221 rfl rfl ?_;have:=(B0x l A7u [] [] [] (fun x=>(A0i x)) (by(first |assumption |omega |exact B0 |(simp_all;done) |(simp_all;omega))) C1k (by simp[AV.ids,C9]) (fun x _=>B63 x))
 have:=T5.eq_1 l;exact D3
def H1(p:C4):Bool:=if(decide (p.NormalImpulse<0))=false then(let v1:=(T5 ([p.Point.X,p.Point.Y,p.Separation,p.ID,p.NormalImpulse,p.TangentImpulse]));((decide (p.NormalImpulse<0))||(!v1)))else(true)
theorem B2a(p:C4):A5 Tryz.prog A5e [.agg p.enc] [] (.sc (.bool (H1 p))) []:=by
 refine en1 hm A1 Tryz.func223 rfl rfl ?_;simp only[go_sem,A4,A6,A3,A2]
 (repeat(with_reducible refine And.intro ?_ ?_;focus (first |exact B0 |(exact ob_))))
 by_cases h1:(decide (p.NormalImpulse<0))=false
 ·first |rw[if_pos h1] |rw[if_pos (by simp_all)] |rw[if_pos (by omega)]
  (repeat(with_reducible refine And.intro ?_ ?_;focus (first |exact B0 |(exact ob_))))
  refine A04 (B0v ([p.Point.X,p.Point.Y,p.Separation,p.ID,p.NormalImpulse,p.TangentImpulse]) (by(first |assumption |omega |exact B0 |(simp_all;done) |(simp_all;omega)))) rfl ?_ ?_
  ·(try simp only[P9,go_sem,A4,A6,A3,A2]);all_goals((repeat' (with_reducible apply And.intro)) <;> first |with_reducible rfl |trivial |exact R5 (fun _ _=>rfl) rfl rfl rfl |exact C1 rfl |exact A2w _ |rfl)
  generalize hv1:(T5 ([p.Point.X,p.Point.Y,p.Separation,p.ID,p.NormalImpulse,p.TangentImpulse]))=v1;simp only[go_sem,A4,A6,A3,A2]
  (repeat(with_reducible refine And.intro ?_ ?_;focus (first |exact B0 |(exact ob_))))
  have hd:H1 p=((decide (p.NormalImpulse<0))||(!v1)):=by first |with_reducible rfl |(unfold H1;exact hd_)
  try rw[hd]
  try simp only[go_sem,A4,A6,A3,A2]
  all_goals exact F4
 ·first |rw[if_neg h1] |rw[if_neg (by simp_all)] |rw[if_neg (by omega)]
  (repeat(with_reducible refine And.intro ?_ ?_;focus (first |exact B0 |(exact ob_))))
  have hd:H1 p=true:=by first |with_reducible rfl |(unfold H1;exact hd_)
  try rw[hd]
  try simp only[go_sem,A4,A6,A3,A2]
  all_goals exact F4
def D7(m:Manifold):Bool:=if(((decide ((m.Points.length:Int)<1))||(decide (2<(m.Points.length:Int))))||(((m.Points.length:Int)==2)&&((m.Points.getD 0 default).ID==(m.Points.getD 1 default).ID)))=false then(let v1:=(T5 ([m.Normal.X,m.Normal.Y]));if((((decide ((m.Points.length:Int)<1))||(decide (2<(m.Points.length:Int))))||(((m.Points.length:Int)==2)&&((m.Points.getD 0 default).ID==(m.Points.getD 1 default).ID)))||(!v1))=true then(false)else((!(m.Points.any (fun x=>(H1 x))))))else(false)
theorem B48(m:Manifold)(hl:m.Points.length≤1048576):A5 Tryz.prog B5d [.agg m.enc] [] (.sc (.bool (D7 m))) []:=by
 refine en1 hm A1 Tryz.func116 rfl rfl ?_;simp only[go_sem,A4,A6,A3,A2]
 (repeat(with_reducible refine And.intro ?_ ?_;focus (first |exact B0 |(exact ob_))))
 by_cases h1:(((decide ((m.Points.length:Int)<1))||(decide (2<(m.Points.length:Int))))||(((m.Points.length:Int)==2)&&((m.Points.getD 0 default).ID==(m.Points.getD 1 default).ID)))=false
 ·first |rw[if_pos h1] |rw[if_pos (by simp_all)] |rw[if_pos (by omega)]
  (repeat(with_reducible refine And.intro ?_ ?_;focus (first |exact B0 |(exact ob_))))
  refine A04 (B0v ([m.Normal.X,m.Normal.Y]) (by(first |assumption |omega |exact B0 |(simp_all;done) |(simp_all;omega)))) rfl ?_ ?_
  ·(try simp only[P9,go_sem,A4,A6,A3,A2]);all_goals((repeat' (with_reducible apply And.intro)) <;> first |with_reducible rfl |trivial |exact R5 (fun _ _=>rfl) rfl rfl rfl |exact C1 rfl |exact A2w _ |rfl)
  generalize hv1:(T5 ([m.Normal.X,m.Normal.Y]))=v1;simp only[go_sem,A4,A6,A3,A2]
  (repeat(with_reducible refine And.intro ?_ ?_;focus (first |exact B0 |(exact ob_))))
  by_cases h2:((((decide ((m.Points.length:Int)<1))||(decide (2<(m.Points.length:Int))))||(((m.Points.length:Int)==2)&&((m.Points.getD 0 default).ID==(m.Points.getD 1 default).ID)))||(!v1))=true
  ·first |rw[if_pos h2] |rw[if_pos (by simp_all)] |rw[if_pos (by omega)]
   (repeat(with_reducible refine And.intro ?_ ?_;focus (first |exact B0 |(exact ob_))))
   have hd:D7 m=false:=by first |with_reducible rfl |(unfold D7;exact hd_)
   try rw[hd]
   try simp only[go_sem,A4,A6,A3,A2]
   all_goals exact F4
  ·first |rw[if_neg h2] |rw[if_neg (by simp_all)] |rw[if_neg (by omega)]
   (repeat(with_reducible refine And.intro ?_ ?_;focus (first |exact B0 |(exact ob_))))
   refine A0 (A6d m.Points A5e [] [] [] (fun x=>(H1 x)) (by(first |assumption |omega |exact B0 |(simp_all;done) |(simp_all;omega))) C1k (by simp[AV.ids,C9]) (fun x _=>B2a x)) rfl ?_;simp only[go_sem,A4,A6,A3,A2]
   (repeat(with_reducible refine And.intro ?_ ?_;focus (first |exact B0 |(exact ob_))))
   have hd:D7 m=(!(m.Points.any (fun x=>(H1 x)))):=by first |with_reducible rfl |(unfold D7;exact hd_)
   try rw[hd]
   try simp only[go_sem,A4,A6,A3,A2]
   all_goals exact F4
 ·first |rw[if_neg h1] |rw[if_neg (by simp_all)] |rw[if_neg (by omega)]
  (repeat(with_reducible refine And.intro ?_ ?_;focus (first |exact B0 |(exact ob_))))
  have hd:D7 m=false:=by first |with_reducible rfl |(unfold D7;exact hd_)
  try rw[hd]
  try simp only[go_sem,A4,A6,A3,A2]
  all_goals exact F4
def Z9(m:Manifold)(i1:Nat)(s1:Unit):(Unit) ⊕ (Bool):=let v4:=(Z7 (m.Points.getD i1 default).Point);let v5:=(Z7 (⟨(m.Points.getD i1 default).Separation,(m.Points.getD i1 default).ID⟩:Vec));if((((!(inR (m.Points.getD i1 default).NormalImpulse 0 536870911))||(!(inR (m.Points.getD i1 default).TangentImpulse (-536870911) 536870911)))||(!v4))||(!v5))=true then(.inr false)else(.inl ())
def W2(m:Manifold):Bool:=let v1:=(Z7 m.Normal);if((((decide ((m.Points.length:Int)<1))||(decide (2<(m.Points.length:Int))))||(((m.Points.length:Int)==2)&&((m.Points.getD 0 default).ID==(m.Points.getD 1 default).ID)))||(!v1))=true then(false)else((match D0 (Z9 m) m.Points.length ()with | .inr r=>r | .inl s1=>true))
theorem C1u(m:Manifold)(hl:m.Points.length≤1048576):A5 Tryz.prog C15 [.agg m.enc] [] (.sc (.bool (W2 m))) []:=by
 refine en1 hm A1 Tryz.func55 rfl rfl ?_;have:=fun x1 x2=>cx_ (B2x ⟨x1,x2⟩)
 have:=B2x
 have:=B7d
 have:=W2.eq_1 m
 have:=fun i_ s_=>Z9.eq_1 m i_ s_
 have:=fun x_ Q_ σ_=> @lp_ Tryz.prog Tryz.f55.ntmps [] x_ Q_ σ_ hm (IE (Z9 m) ()) (fun _=>True) m.Points.length (fun i_=> [(1, .share, .ptr 32 0 0 1),(3, .share, .sc (.int .i64 (m.Points.length:Int))),(4, .share, .sc (.int .i64 (i_:Int)))]) (fun i_=> [(32, .box [.sc (.int .i64 m.Normal.X), .sc (.int .i64 m.Normal.Y),B4 6 C4.enc default m.Points])]) [] rfl (fun _ _=>trivial) (by simp[go_sem]) (by simp[go_sem,A9]) (by simp[go_sem]);exact A2x
def X6(l:List D5)(i1:Nat)(s1:(List B2)):(List B2):=(s1++ [(l.getD i1 default).Key])
def A03(l:List D5):(List B2):=let s1:=itr (X6 l) l.length [];s1
theorem D6e(l:List D5)(hl:l.length≤1048576):A5 Tryz.prog D6b [B4 7 D5.enc default l] [] (B4 4 B2.enc default (A03 l)) []:=by
 refine en1 hm A1 Tryz.func52 rfl rfl ?_;have:=A03.eq_1 l
 have:=fun i_ s_=>X6.eq_1 l i_ s_
 have:=fun x_ Q_ σ_=> @lp_ Tryz.prog Tryz.f52.ntmps [] x_ Q_ σ_ hm (fun _=>True) (fun i_=>((itr (X6 l) i_ [])).length≤0+1*i_) l.length (fun i_=> [(0, .share,B4 7 D5.enc default l),(3,if i_=0 then .adopt else .share, .sl 1003 0 (itr (X6 l) i_ []).length (itr (X6 l) i_ []).length),(4, .share, .sc (.int .i64 (i_:Int)))]) (fun i_=> [(1003, .arr 4 (D2 B2.enc default (itr (X6 l) i_ [])))]) [1003] trivial (fun i_ hI_=>B1o (fun s:(List B2)=>(s).length) 1 (fun i s=>by(unfold X6;(repeat' split) <;> simp <;> omega)) i_ _) (by simp[go_sem]) (by simp[go_sem,A9]) (by simp[go_sem]);exact A2x
theorem E4j(l:List D5):A03 l=l.map fun c=>c.Key:=by
 unfold A03;simp only;rw[D8r (f:=X6 l) (g:=fun s c=>s++ [c.Key]) (l:=l) default (fun i s _=>rfl)];have: ∀(l:List D5) (acc:List B2),l.foldl (fun s c=>s++ [c.Key]) acc=acc++l.map fun c=>c.Key:=by
  intro l;induction l with
  |nil=>simp
  |cons a l ih=>intro acc;simp[ih]
 rw[this];rfl
theorem E0c(l:List D5):(A03 l).length=l.length:=by rw[E4j];simp
theorem A8v(w:Api.World)(id:Int)(hw:w.Bodies.length≤1048576):A5 Tryz.prog C7b [.agg w.enc, .sc (.int .i64 id)] [] (.sc (.int .i64 (Q7 w id))) []:=by
 refine en1 hm A1 Tryz.func51 rfl rfl ?_;simp only[go_sem];refine C6 hm (ι:= {i:Nat // i≤w.Bodies.length∧ ∀j,j<i→((w.Bodies.getD j default).ID==id)=false}) (fun i=> [(1, .share, .sc (.int .i64 id)),(2, .share, .ptr 48 0 0 1),(5, .share, .sc (.int .i64 i.1))])
  (fun i=> [(48, .box w.enc)]) (fun i=>w.Bodies.length-i.1) ⟨0,by omega,fun j hj=>by omega⟩ ?_ ?_
 ·refine F9 [] [] ?_;simp only[go_sem]
 ·rintro⟨i,hi,hs⟩;simp only[go_sem];split
  ·rename_i hlt;have hlt:i<w.Bodies.length:=by omega
   refine⟨ok_,?_⟩;cases hx:((w.Bodies.getD i default).ID==id)with
   |true=>rw[if_pos rfl];exact(A3z hlt hs hx).symm
   |false=>rw[if_neg (by simp)];refine B8 ⟨i+1,by omega,fun j hj=>by rcases Nat.lt_succ_iff_lt_or_eq.1 hj with h |rfl;exact hs j h;exact hx⟩ (by show w.Bodies.length-(i+1)<w.Bodies.length-i;omega) (F9 [] [] ?_);simp only[go_sem];exact(by rw[IntKind.wrap_i64];omega)
  ·rename_i hge;exact(A0o fun j hj=>hs j (by omega)).symm
theorem A0t(w:Api.World)(id:Int): -1≤Q7 w id∧Q7 w id<(w.Bodies.length:Int):=C7f
end Go.Abs
end
