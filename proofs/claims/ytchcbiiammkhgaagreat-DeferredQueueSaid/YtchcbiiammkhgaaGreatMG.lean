/- A part of the proof: contracts of functions that the statement reaches. -/
import Derived.Test.YtchcbiiammkhgaaGreatLF
import Derived.KernelRfl
import Derived.Eval
import Derived.Test.YtchcbiiammkhgaaGreatChecked
set_option linter.unusedSimpArgs false
set_option linter.unusedVariables false
set_option linter.unnecessarySimpa false
set_option maxRecDepth 100000
set_option maxHeartbeats 2000000
noncomputable section
namespace Go.Abs
open Go.Proofs
theorem hm:Tryz.prog.follows .mixedOrders=true:=Tryz.checked.mixed
def shL:List (Nat×List Bool):= [(22,[true,true]),(23,[true,true]),(24,[true,true,true,true,true]),(25,[true,true,true,true,true]),(50,[true,true,true]),(51,[true,true,true]),(56,[true,true,true,true]),(57,[true,true,true,true,true,true,true,true,true,true,true,false,true,true,false,true,true,true,true,false,true,true,true,true]),(58,[true,true,true,true,true,true,true,true,true,true,true,false,true,true,false,true,true,true,true,false,true,true,true,true]),(128,[true,true,true,true]),(129,[true,true,true,true]),(189,[true,true,true,true]),(190,[true,true,true,true]),(194,[true,true,true,true,true,true]),(195,[true,true,true,true,true,true]),(207,[true,true,true,true,true]),(208,[true,true,true,true,true]),(220,[true,true,true,true,true]),(221,[true,true,true,true,true]),(298,[true,true,true,true]),(299,[true,true,true,true]),(346,[true,true]),(347,[true,true]),(348,[true,true]),(411,[true,true]),(412,[true,true]),(437,[true,true,true,true,true,true]),(438,[true,true,true,true,true,true]),(440,[true,true,true,true,true]),(441,[true,true,true,true,true]),(524,[true,true,true,true]),(525,[true,true,true,true]),(533,[true,true,true]),(534,[true,true,true]),(550,[true,true,true,true]),(551,[true,true,true,true]),(568,[true,true,true,true,true]),(569,[true,true,true,true,true])]
theorem A4:okE Tryz.prog shL=true:=by kernel_rfl
abbrev C2v:Nat:=3
abbrev E1w:Nat:=8
abbrev D8u:Nat:=9
abbrev D77:Nat:=10
abbrev D89:Nat:=11
abbrev A9y:Nat:=12
abbrev A46:Nat:=13
abbrev A8r:Nat:=14
abbrev E70:Nat:=15
abbrev A9w:Nat:=16
abbrev A75:Nat:=17
abbrev B1y:Nat:=18
abbrev E1y:Nat:=38
abbrev E7v:Nat:=39
abbrev C2o:Nat:=40
abbrev F5f:Nat:=41
abbrev D26:Nat:=42
abbrev D2d:Nat:=43
abbrev C64:Nat:=44
abbrev C7u:Nat:=45
abbrev E2b:Nat:=46
abbrev D5p:Nat:=47
abbrev C6t:Nat:=48
abbrev A8z:Nat:=49
abbrev E4l:Nat:=50
abbrev B6m:Nat:=51
abbrev E2d:Nat:=52
abbrev A70:Nat:=53
abbrev E9v:Nat:=54
abbrev E7c:Nat:=55
abbrev E7s:Nat:=56
abbrev A36:Nat:=57
abbrev D7o:Nat:=58
abbrev D5z:Nat:=76
abbrev E0a:Nat:=77
abbrev D9i:Nat:=78
abbrev D68:Nat:=79
abbrev E0b:Nat:=80
abbrev F0h:Nat:=81
abbrev D75:Nat:=82
abbrev D9m:Nat:=83
abbrev D2i:Nat:=84
abbrev B9e:Nat:=85
abbrev F0q:Nat:=86
abbrev C7n:Nat:=87
abbrev C68:Nat:=88
abbrev C3g:Nat:=89
abbrev C7r:Nat:=90
abbrev C4a:Nat:=91
abbrev C2c:Nat:=92
abbrev C1b:Nat:=93
abbrev E42:Nat:=94
abbrev B8n:Nat:=95
abbrev D5c:Nat:=96
abbrev D5q:Nat:=97
abbrev C28:Nat:=98
abbrev E4v:Nat:=99
abbrev C2r:Nat:=101
abbrev C3w:Nat:=102
abbrev D0x:Nat:=105
abbrev D6u:Nat:=106
abbrev B7n:Nat:=107
abbrev D8v:Nat:=108
abbrev B8d:Nat:=109
abbrev C5q:Nat:=110
abbrev B4z:Nat:=111
abbrev D2t:Nat:=112
abbrev C6z:Nat:=113
abbrev E6y:Nat:=114
abbrev C6l:Nat:=115
abbrev C58:Nat:=116
abbrev E1m:Nat:=117
abbrev D82:Nat:=118
abbrev C9d:Nat:=119
abbrev A5w:Nat:=120
abbrev D2p:Nat:=121
abbrev C20:Nat:=122
abbrev D5w:Nat:=123
abbrev E1j:Nat:=132
abbrev C26:Nat:=133
abbrev D2w:Nat:=134
abbrev E1k:Nat:=135
abbrev E5c:Nat:=136
abbrev F02:Nat:=137
abbrev E4n:Nat:=138
abbrev D6b:Nat:=139
abbrev D74:Nat:=140
abbrev D5r:Nat:=141
abbrev C7t:Nat:=142
abbrev D5m:Nat:=143
abbrev C31:Nat:=144
abbrev C2i:Nat:=145
abbrev B4u:Nat:=146
abbrev B92:Nat:=147
abbrev A9u:Nat:=148
abbrev C25:Nat:=149
abbrev E11:Nat:=150
abbrev B59:Nat:=151
abbrev C56:Nat:=152
abbrev C16:Nat:=153
abbrev D4g:Nat:=154
abbrev D0u:Nat:=155
abbrev C7w:Nat:=156
abbrev C62:Nat:=157
abbrev D44:Nat:=158
abbrev B0z:Nat:=159
abbrev B58:Nat:=160
abbrev D4t:Nat:=161
abbrev C7k:Nat:=162
abbrev C8o:Nat:=164
abbrev A9p:Nat:=165
abbrev C27:Nat:=166
abbrev D7e:Nat:=168
abbrev D8t:Nat:=169
abbrev E7z:Nat:=176
abbrev D3w:Nat:=177
abbrev C0k:Nat:=178
abbrev C45:Nat:=179
abbrev D2v:Nat:=180
abbrev C84:Nat:=181
abbrev B9f:Nat:=182
abbrev C8z:Nat:=183
abbrev C1a:Nat:=184
abbrev C88:Nat:=185
abbrev E2c:Nat:=186
abbrev D36:Nat:=187
abbrev D91:Nat:=188
abbrev C8g:Nat:=189
abbrev B1j:Nat:=190
abbrev A3t:Nat:=191
abbrev D21:Nat:=192
abbrev C3k:Nat:=193
abbrev D52:Nat:=194
abbrev C36:Nat:=195
abbrev C7h:Nat:=196
abbrev F07:Nat:=197
abbrev D0s:Nat:=198
abbrev D13:Nat:=199
abbrev B1d:Nat:=200
abbrev C6a:Nat:=201
abbrev B8f:Nat:=202
abbrev A00:Nat:=203
abbrev C8l:Nat:=204
abbrev C9j:Nat:=205
abbrev C83:Nat:=206
abbrev C4t:Nat:=207
abbrev B48:Nat:=208
abbrev D9r:Nat:=209
abbrev E5j:Nat:=210
abbrev F5m:Nat:=219
abbrev E7h:Nat:=220
abbrev D85:Nat:=221
abbrev D8d:Nat:=222
abbrev D25:Nat:=223
abbrev D7b:Nat:=224
abbrev E68:Nat:=225
abbrev D87:Nat:=226
abbrev C2g:Nat:=227
abbrev D23:Nat:=228
abbrev C2k:Nat:=229
abbrev C60:Nat:=230
abbrev C5b:Nat:=231
abbrev C0c:Nat:=232
abbrev B43:Nat:=233
abbrev D2y:Nat:=234
abbrev B1c:Nat:=235
abbrev A9x:Nat:=236
abbrev C81:Nat:=237
abbrev D2g:Nat:=238
abbrev B64:Nat:=239
abbrev B28:Nat:=240
abbrev C9p:Nat:=241
abbrev C38:Nat:=242
abbrev E6t:Nat:=243
abbrev B69:Nat:=244
abbrev C18:Nat:=245
abbrev B7x:Nat:=246
abbrev B30:Nat:=247
abbrev D40:Nat:=248
abbrev D48:Nat:=249
abbrev C0b:Nat:=250
abbrev B3h:Nat:=251
abbrev D0p:Nat:=252
abbrev B9v:Nat:=253
abbrev F0p:Nat:=254
abbrev B3i:Nat:=255
abbrev B1p:Nat:=256
abbrev B85:Nat:=257
abbrev D37:Nat:=258
abbrev C3s:Nat:=259
abbrev B32:Nat:=260
abbrev D6x:Nat:=261
abbrev E6g:Nat:=264
abbrev B2x:Nat:=267
abbrev D2r:Nat:=268
abbrev C5v:Nat:=269
abbrev D3z:Nat:=270
abbrev E1l:Nat:=271
abbrev F0x:Nat:=272
abbrev D0l:Nat:=273
abbrev C85:Nat:=274
abbrev E54:Nat:=275
abbrev D56:Nat:=276
abbrev D2s:Nat:=277
abbrev F1i:Nat:=278
abbrev C2z:Nat:=281
abbrev D6z:Nat:=294
abbrev B0e:Nat:=295
abbrev A6r:Nat:=296
abbrev E3o:Nat:=297
abbrev E7m:Nat:=298
abbrev E6m:Nat:=299
abbrev E6q:Nat:=300
abbrev D02:Nat:=301
abbrev C4i:Nat:=302
abbrev D6l:Nat:=303
abbrev D4p:Nat:=304
abbrev E7l:Nat:=305
abbrev D2f:Nat:=306
abbrev C2y:Nat:=307
abbrev D0k:Nat:=308
abbrev C10:Nat:=309
abbrev B71:Nat:=310
abbrev E7t:Nat:=311
abbrev C2p:Nat:=312
abbrev B9z:Nat:=313
abbrev D2k:Nat:=314
abbrev C7s:Nat:=315
abbrev C7v:Nat:=316
abbrev B7u:Nat:=317
abbrev C8r:Nat:=318
abbrev D5x:Nat:=319
abbrev C3o:Nat:=320
abbrev D2z:Nat:=321
abbrev C91:Nat:=322
abbrev E2h:Nat:=323
abbrev E6w:Nat:=324
abbrev D17:Nat:=325
abbrev B98:Nat:=326
abbrev D8n:Nat:=327
abbrev A9d:Nat:=328
abbrev B3p:Nat:=329
abbrev B02:Nat:=330
abbrev C5s:Nat:=331
abbrev B0y:Nat:=332
abbrev A95:Nat:=333
abbrev B6u:Nat:=334
abbrev C1l:Nat:=335
abbrev D5j:Nat:=336
abbrev C30:Nat:=337
abbrev E1o:Nat:=348
abbrev D0e:Nat:=349
abbrev E4x:Nat:=350
abbrev F2y:Nat:=351
abbrev D92:Nat:=352
abbrev C79:Nat:=353
abbrev E90:Nat:=354
abbrev D9t:Nat:=355
abbrev D4q:Nat:=356
abbrev D9c:Nat:=357
abbrev E2o:Nat:=358
abbrev D20:Nat:=359
abbrev E2p:Nat:=360
abbrev C9m:Nat:=361
abbrev D6e:Nat:=362
abbrev C4g:Nat:=363
abbrev B3n:Nat:=364
abbrev C9e:Nat:=365
abbrev D6h:Nat:=366
abbrev E9o:Nat:=367
abbrev C0a:Nat:=368
abbrev B6h:Nat:=369
abbrev B7h:Nat:=370
abbrev C2q:Nat:=371
abbrev E3l:Nat:=374
abbrev D2c:Nat:=375
abbrev C9i:Nat:=376
abbrev B8a:Nat:=377
abbrev B46:Nat:=378
abbrev C8d:Nat:=379
abbrev C7x:Nat:=380
abbrev C1j:Nat:=381
abbrev D88:Nat:=382
abbrev B99:Nat:=383
abbrev C6f:Nat:=384
abbrev C89:Nat:=385
abbrev D76:Nat:=386
abbrev B08:Nat:=387
abbrev C7e:Nat:=388
abbrev D3v:Nat:=389
abbrev B7z:Nat:=390
abbrev D7q:Nat:=391
abbrev B00:Nat:=392
abbrev D7z:Nat:=393
abbrev D9d:Nat:=394
abbrev C9y:Nat:=395
abbrev D0f:Nat:=396
abbrev E51:Nat:=400
abbrev E2m:Nat:=403
abbrev C1d:Nat:=404
abbrev C6g:Nat:=405
abbrev D4c:Nat:=406
abbrev D5k:Nat:=407
abbrev D5u:Nat:=408
abbrev E5t:Nat:=409
abbrev E5o:Nat:=410
abbrev D4r:Nat:=415
abbrev E6r:Nat:=416
abbrev C1w:Nat:=417
abbrev B7i:Nat:=418
abbrev D5b:Nat:=419
abbrev B8z:Nat:=420
abbrev B96:Nat:=421
abbrev B6q:Nat:=422
abbrev C2w:Nat:=423
abbrev C4f:Nat:=424
abbrev C5y:Nat:=425
abbrev C3b:Nat:=426
abbrev C5z:Nat:=427
abbrev D2n:Nat:=428
abbrev C7l:Nat:=429
abbrev C7j:Nat:=430
abbrev C7g:Nat:=431
abbrev C73:Nat:=432
abbrev C0f:Nat:=433
abbrev C5m:Nat:=434
abbrev E38:Nat:=435
abbrev B7f:Nat:=436
abbrev E3p:Nat:=437
abbrev B4v:Nat:=438
abbrev B74:Nat:=439
abbrev C9u:Nat:=440
abbrev C7z:Nat:=441
abbrev C8j:Nat:=442
abbrev D2o:Nat:=443
abbrev E75:Nat:=444
abbrev E6c:Nat:=445
abbrev D4x:Nat:=446
abbrev E5q:Nat:=447
abbrev D0j:Nat:=448
abbrev D43:Nat:=449
abbrev F2o:Nat:=458
abbrev E2a:Nat:=459
abbrev D15:Nat:=460
abbrev E6a:Nat:=461
abbrev D9n:Nat:=462
abbrev C7a:Nat:=463
abbrev E14:Nat:=464
abbrev A9s:Nat:=465
abbrev B95:Nat:=466
abbrev C6k:Nat:=467
abbrev B6n:Nat:=469
abbrev A9f:Nat:=470
abbrev C1k:Nat:=481
abbrev C5r:Nat:=482
abbrev E2e:Nat:=483
abbrev C80:Nat:=484
abbrev C1r:Nat:=485
abbrev E2j:Nat:=486
abbrev C1o:Nat:=487
abbrev A2d:Nat:=488
abbrev D5a:Nat:=489
abbrev F0g:Nat:=490
abbrev C9s:Nat:=491
abbrev E12:Nat:=492
abbrev D53:Nat:=511
abbrev B9r:Nat:=512
abbrev C61:Nat:=513
abbrev C4n:Nat:=514
abbrev C47:Nat:=515
abbrev B4j:Nat:=516
abbrev B26:Nat:=517
abbrev E74:Nat:=518
abbrev C65:Nat:=519
abbrev C93:Nat:=520
abbrev D2l:Nat:=540
abbrev C7p:Nat:=541
abbrev D5s:Nat:=542
abbrev D0t:Nat:=549
abbrev B6c:Nat:=550
abbrev B6s:Nat:=551
abbrev C08:Nat:=552
abbrev B1s:Nat:=553
abbrev D2b:Nat:=554
abbrev D9x:Nat:=567
abbrev B7d:Nat:=570
abbrev C2d:Nat:=571
end Go.Abs
end
noncomputable section
namespace Go.Abs
open Go.Proofs
open Api
theorem B6p(l:List Vec)(hl:l.length<=1048576):A1 Tryz.prog C9p [A2 2 Vec.enc default l] [] (.sl 1 0 l.length l.length) [(1, .arr 2 (A8 Vec.enc default l))]:=by
 by_cases hn:l= []
 ·subst hn;refine A1.nil_split (g:=L7 Vec.enc default ([]:List Vec)) [] [] ?_ (λa c=> ?_)
  ·refine H8 hm A4 Tryz.func241 rfl rfl ?_;simp only[go_sem];refine C6 [.adopt] [] [1] rfl rfl (by simp) (by simp) (by simp) ?_;simp only[go_sem]
  ·refine H8 hm A4 Tryz.func241 rfl rfl ?_;simp only[go_sem];refine⟨by simp[maxLen],?_⟩;refine C6 [.share] [(1,96)] [] rfl rfl (by simp) (by simp) (by simp) ?_;simp only[go_sem];exact⟨rfl,rfl,λi hi=>absurd hi (by simp)⟩
 ·have hpos:0<l.length:=List.length_pos_iff.2 hn
  refine H8 hm A4 Tryz.func241 rfl rfl ?_;simp only[go_sem];refine⟨hpos,⟨by omega,by simp only[maxLen];omega⟩,?_⟩;refine C6 [.share] [(1,96)] [] rfl rfl (by simp) (by simp) (by simp) ?_;simp only[go_sem]
theorem A74(l:List ContactPoint)(hl:l.length<=1048576):A1 Tryz.prog B59 [A2 6 ContactPoint.enc default l] [] (.sl 1 0 l.length l.length) [(1, .arr 6 (A8 ContactPoint.enc default l))]:=by
 by_cases hn:l= []
 ·subst hn;refine A1.nil_split (g:=L7 ContactPoint.enc default ([]:List ContactPoint)) [] [] ?_ (λa c=> ?_)
  ·refine H8 hm A4 Tryz.func151 rfl rfl ?_;simp only[go_sem];refine C6 [.adopt] [] [1] rfl rfl (by simp) (by simp) (by simp) ?_;simp only[go_sem]
  ·refine H8 hm A4 Tryz.func151 rfl rfl ?_;simp only[go_sem];refine⟨by simp[maxLen],?_⟩;refine C6 [.share] [(1,96)] [] rfl rfl (by simp) (by simp) (by simp) ?_;simp only[go_sem];exact⟨rfl,rfl,λi hi=>absurd hi (by simp)⟩
 ·have hpos:0<l.length:=List.length_pos_iff.2 hn
  refine H8 hm A4 Tryz.func151 rfl rfl ?_;simp only[go_sem];refine⟨hpos,⟨by omega,by simp only[maxLen];omega⟩,?_⟩;refine C6 [.share] [(1,96)] [] rfl rfl (by simp) (by simp) (by simp) ?_;simp only[go_sem]
theorem A87(l:List Body)(hl:l.length<=1048576):A1 Tryz.prog C7r [A2 20 Body.enc default l] [] (.sl 1 0 l.length l.length) [(1, .arr 20 (A8 Body.enc default l))]:=by
 by_cases hn:l= []
 ·subst hn;refine A1.nil_split (g:=L7 Body.enc default ([]:List Body)) [] [] ?_ (λa c=> ?_)
  ·refine H8 hm A4 Tryz.func90 rfl rfl ?_;simp only[go_sem];refine C6 [.adopt] [] [1] rfl rfl (by simp) (by simp) (by simp) ?_;simp only[go_sem]
  ·refine H8 hm A4 Tryz.func90 rfl rfl ?_;simp only[go_sem];refine⟨by simp[maxLen],?_⟩;refine C6 [.share] [(1,96)] [] rfl rfl (by simp) (by simp) (by simp) ?_;simp only[go_sem];exact⟨rfl,rfl,λi hi=>absurd hi (by simp)⟩
 ·have hpos:0<l.length:=List.length_pos_iff.2 hn
  refine H8 hm A4 Tryz.func90 rfl rfl ?_;simp only[go_sem];refine⟨hpos,⟨by omega,by simp only[maxLen];omega⟩,?_⟩;refine C6 [.share] [(1,96)] [] rfl rfl (by simp) (by simp) (by simp) ?_;simp only[go_sem]
theorem A8m(l:List Joint)(hl:l.length<=1048576):A1 Tryz.prog C4a [A2 24 Joint.enc default l] [] (.sl 1 0 l.length l.length) [(1, .arr 24 (A8 Joint.enc default l))]:=by
 by_cases hn:l= []
 ·subst hn;refine A1.nil_split (g:=L7 Joint.enc default ([]:List Joint)) [] [] ?_ (λa c=> ?_)
  ·refine H8 hm A4 Tryz.func91 rfl rfl ?_;simp only[go_sem];refine C6 [.adopt] [] [1] rfl rfl (by simp) (by simp) (by simp) ?_;simp only[go_sem]
  ·refine H8 hm A4 Tryz.func91 rfl rfl ?_;simp only[go_sem];refine⟨by simp[maxLen],?_⟩;refine C6 [.share] [(1,96)] [] rfl rfl (by simp) (by simp) (by simp) ?_;simp only[go_sem];exact⟨rfl,rfl,λi hi=>absurd hi (by simp)⟩
 ·have hpos:0<l.length:=List.length_pos_iff.2 hn
  refine H8 hm A4 Tryz.func91 rfl rfl ?_;simp only[go_sem];refine⟨hpos,⟨by omega,by simp only[maxLen];omega⟩,?_⟩;refine C6 [.share] [(1,96)] [] rfl rfl (by simp) (by simp) (by simp) ?_;simp only[go_sem]
theorem B1v(l:List Contact)(hl:l.length<=1048576):A1 Tryz.prog C2c [A2 7 Contact.enc default l] [] (.sl 1 0 l.length l.length) [(1, .arr 7 (A8 Contact.enc default l))]:=by
 by_cases hn:l= []
 ·subst hn;refine A1.nil_split (g:=L7 Contact.enc default ([]:List Contact)) [] [] ?_ (λa c=> ?_)
  ·refine H8 hm A4 Tryz.func92 rfl rfl ?_;simp only[go_sem];refine C6 [.adopt] [] [1] rfl rfl (by simp) (by simp) (by simp) ?_;simp only[go_sem]
  ·refine H8 hm A4 Tryz.func92 rfl rfl ?_;simp only[go_sem];refine⟨by simp[maxLen],?_⟩;refine C6 [.share] [(1,96)] [] rfl rfl (by simp) (by simp) (by simp) ?_;simp only[go_sem];exact⟨rfl,rfl,λi hi=>absurd hi (by simp)⟩
 ·have hpos:0<l.length:=List.length_pos_iff.2 hn
  refine H8 hm A4 Tryz.func92 rfl rfl ?_;simp only[go_sem];refine⟨hpos,⟨by omega,by simp only[maxLen];omega⟩,?_⟩;refine C6 [.share] [(1,96)] [] rfl rfl (by simp) (by simp) (by simp) ?_;simp only[go_sem]
theorem B1w(l:List PairKey)(hl:l.length<=1048576):A1 Tryz.prog C1b [A2 4 PairKey.enc default l] [] (.sl 1 0 l.length l.length) [(1, .arr 4 (A8 PairKey.enc default l))]:=by
 by_cases hn:l= []
 ·subst hn;refine A1.nil_split (g:=L7 PairKey.enc default ([]:List PairKey)) [] [] ?_ (λa c=> ?_)
  ·refine H8 hm A4 Tryz.func93 rfl rfl ?_;simp only[go_sem];refine C6 [.adopt] [] [1] rfl rfl (by simp) (by simp) (by simp) ?_;simp only[go_sem]
  ·refine H8 hm A4 Tryz.func93 rfl rfl ?_;simp only[go_sem];refine⟨by simp[maxLen],?_⟩;refine C6 [.share] [(1,96)] [] rfl rfl (by simp) (by simp) (by simp) ?_;simp only[go_sem];exact⟨rfl,rfl,λi hi=>absurd hi (by simp)⟩
 ·have hpos:0<l.length:=List.length_pos_iff.2 hn
  refine H8 hm A4 Tryz.func93 rfl rfl ?_;simp only[go_sem];refine⟨hpos,⟨by omega,by simp only[maxLen];omega⟩,?_⟩;refine C6 [.share] [(1,96)] [] rfl rfl (by simp) (by simp) (by simp) ?_;simp only[go_sem]
def Shape.sm(s:Shape):Prop:=s.Vertices.length<=1048576
def Fixture.sm(f:Fixture):Prop:=Shape.sm f.Shape
def Body.sm(b:Body):Prop:=b.Fixtures.length<=1048576/\ ∀f∈b.Fixtures,Fixture.sm f
def Manifold.sm(m:Manifold):Prop:=m.Points.length<=1048576
def Wsm(w:Api.World):Prop:=w.Bodies.length<=1048576/\w.Joints.length<=1048576/\w.Contacts.length<=1048576/\w.Overlaps.length<=1048576/\(∀b∈w.Bodies,Body.sm b)/\ ∀c∈w.Contacts,Manifold.sm c.Manifold
theorem E1h(s:Shape)(h:Shape.sm s):A1 Tryz.prog E11 [.agg s.enc] [] (.agg s.enc) []:=by refine L5 8 [(2,some (some 3))] hm A4 Tryz.func150 rfl ?_;simp only[go_sem];refine E3 [false] [(1,96)] (B6p s.Vertices h) (by simp) (by simp) (by simp) (by simp) ?_;simp only[go_sem]
theorem B2i(s:Manifold)(h:Manifold.sm s):A1 Tryz.prog B8n [.agg s.enc] [] (.agg s.enc) []:=by refine L5 8 [(2,some (some 3))] hm A4 Tryz.func95 rfl ?_;simp only[go_sem];refine E3 [false] [(1,96)] (A74 s.Points h) (by simp) (by simp) (by simp) (by simp) ?_;simp only[go_sem]
theorem A7s(b:Body)(h:Body.sm b):A1 Tryz.prog E42 [.agg b.enc] [] (.agg b.enc) []:=by
 refine L5 25 [(2,some (some 20))] hm A4 Tryz.func94 rfl ?_;simp only[go_sem];refine A9 hm (ι:= {i:Nat // i<=b.Fixtures.length}) (λi=> [(1, .share, .ptr 32 0 0 1),(2, .share, .ptr 48 0 0 1),(3,if i.1=0 then .adopt else .share, .sl 1 0 i.1 i.1),(7, .share,A2 10 Fixture.enc default b.Fixtures),(8, .share,sI b.Fixtures.length),(9, .share,sI i.1)])
  (λi=> [(32, .box b.enc),(48, .box Body.zero),(1, .arr 10 (A8 Fixture.enc default (b.Fixtures.take i.1)))]) (λi=>b.Fixtures.length-i.1) ⟨0,by omega⟩ ?_ ?_
 ·refine B5 [] [1] (by simp) (by simp[A6]) (by simp) ?_;simp only[go_sem]
 ·rintro⟨i,hi⟩;simp only[go_sem];split
  ·rename_i hlt;have hlt:i<b.Fixtures.length:=by omega
   refine⟨⟨by omega,by omega⟩,?_⟩;refine A0 (E1h (b.Fixtures.getD i default).Shape (h.2 _ (B6 _ hlt))) rfl ?_;simp only[go_sem];have hb:=h.1;refine⟨ok_,?_⟩;refine A7 ⟨i+1,by omega⟩ (by show b.Fixtures.length-(i+1)<b.Fixtures.length-i;omega) (D6 [] [] ?_);simp only[go_sem];exact⟨by omega,(by rw[IntKind.wrap_i64];omega),A1y (b.Fixtures.getD i default) rfl (K9 default hlt)⟩
  ·rename_i hge;obtain rfl:i=b.Fixtures.length:=by omega
   simp only[List.take_length,Nat.min_self,go_sem]
def G19(w:Api.World)(a b c d:Nat):AV:= .agg [sI w.Settings.TimeStep,sI w.Settings.Gravity.X,sI w.Settings.Gravity.Y,sI w.Settings.Iterations,sI w.Settings.SleepSteps,
 .sl a 0 w.Bodies.length w.Bodies.length, .sl b 0 w.Joints.length w.Joints.length, .sl c 0 w.Contacts.length w.Contacts.length, .sl d 0 w.Overlaps.length w.Overlaps.length,sI w.NextID,sI w.Frame]
def B2h(w:Api.World)(a b c d:Nat):List (Nat×A5):= [(a, .arr 20 (A8 Body.enc default w.Bodies)),(b, .arr 24 (A8 Joint.enc default w.Joints)),(c, .arr 7 (A8 Contact.enc default w.Contacts)),(d, .arr 4 (A8 PairKey.enc default w.Overlaps))]
attribute [go_sem] G19 B2h
theorem C4j {α:Type}(l:List α)(i:Nat)(d:α)(h:i<l.length):l.set i (l.getD i d)=l:=by simp[List.getD,h]
theorem A51(w:Api.World)(h:Wsm w):A1 Tryz.prog C6t [.agg w.enc] [] (G19 w 1 2 3 4) (B2h w 1 2 3 4):=by
 obtain⟨h1,h2,h3,h4,h5,h6⟩:=h;refine D1u 56 [(2,some (some 11))] hm A4 Tryz.func48 rfl ?_;simp only[go_sem];refine E3 [false] [(1,1)] (A87 w.Bodies h1) (by simp) (by simp) (by simp) (by simp) ?_;simp only[go_sem];refine E3 [false] [(1,2)] (A8m w.Joints h2) (by simp) (by simp) (by simp) (by simp) ?_;simp only[go_sem];refine E3 [false] [(1,3)] (B1v w.Contacts h3) (by simp) (by simp) (by simp) (by simp) ?_;simp only[go_sem];refine E3 [false] [(1,4)] (B1w w.Overlaps h4) (by simp) (by simp) (by simp) (by simp) ?_;simp only[go_sem];refine A9 hm (ι:= {i:Nat // i<=w.Bodies.length}) (λi=> [(1, .share, .ptr 32 0 0 1),(2, .share, .ptr 48 0 0 1),(24, .share, .sl 1 0 w.Bodies.length w.Bodies.length),(25, .share,sI w.Bodies.length),(26, .share,sI i.1)])
  (λi=>(32, .box [sI w.Settings.TimeStep,sI w.Settings.Gravity.X,sI w.Settings.Gravity.Y,sI w.Settings.Iterations,sI w.Settings.SleepSteps,
 .sl 1 0 w.Bodies.length w.Bodies.length, .sl 2 0 w.Joints.length w.Joints.length, .sl 3 0 w.Contacts.length w.Contacts.length, .sl 4 0 w.Overlaps.length w.Overlaps.length,sI w.NextID,sI w.Frame])::(48, .box World.zero)::B2h w 1 2 3 4) (λi=>w.Bodies.length-i.1) ⟨0,by omega⟩ ?_ ?_
 ·refine B5 [] [] (by simp[B2h]) (by simp[A6,B2h]) (by simp) ?_;simp only[go_sem]
 ·rintro⟨i,hi⟩;simp only[go_sem];split
  ·rename_i hlt;have hlt:i<w.Bodies.length:=by omega
   refine⟨⟨by omega,by omega⟩,?_⟩;refine A0 (A7s (w.Bodies.getD i default) (h5 _ (B6 _ hlt))) rfl ?_;simp only[go_sem];refine⟨ok_,?_⟩;refine A7 ⟨i+1,by omega⟩ (by show w.Bodies.length-(i+1)<w.Bodies.length-i;omega) (D6 [] [] ?_);simp only[go_sem];exact⟨(by rw[IntKind.wrap_i64];omega),A2k (w.Bodies.getD i default) hlt rfl (C4j _ _ _ hlt)⟩
  ·rename_i hge;obtain rfl:i=w.Bodies.length:=by omega
   refine A9 hm (ι:= {i:Nat // i<=w.Contacts.length}) (λi=> [(1, .share, .ptr 32 0 0 1),(2, .share, .ptr 48 0 0 1),(39, .share, .sl 3 0 w.Contacts.length w.Contacts.length),(40, .share,sI w.Contacts.length),(41, .share,sI i.1)])
    (λi=>(32, .box [sI w.Settings.TimeStep,sI w.Settings.Gravity.X,sI w.Settings.Gravity.Y,sI w.Settings.Iterations,sI w.Settings.SleepSteps,
 .sl 1 0 w.Bodies.length w.Bodies.length, .sl 2 0 w.Joints.length w.Joints.length, .sl 3 0 w.Contacts.length w.Contacts.length, .sl 4 0 w.Overlaps.length w.Overlaps.length,sI w.NextID,sI w.Frame])::(48, .box World.zero)::B2h w 1 2 3 4) (λi=>w.Contacts.length-i.1) ⟨0,by omega⟩ ?_ ?_
   ·refine B5 [] [] (by simp[B2h]) (by simp[A6,B2h]) (by simp) ?_;simp only[go_sem]
   ·rintro⟨i,hi⟩;simp only[go_sem];split
    ·rename_i hlt;have hlt:i<w.Contacts.length:=by omega
     refine⟨⟨by omega,by omega⟩,?_⟩;refine A0 (B2i (w.Contacts.getD i default).Manifold (h6 _ (B6 _ hlt))) rfl ?_;simp only[go_sem];refine⟨ok_,?_⟩;refine A7 ⟨i+1,by omega⟩ (by show w.Contacts.length-(i+1)<w.Contacts.length-i;omega) (D6 [] [] ?_);simp only[go_sem];exact⟨(by rw[IntKind.wrap_i64];omega),A2k (w.Contacts.getD i default) hlt rfl (C4j _ _ _ hlt)⟩
    ·rename_i hge;obtain rfl:i=w.Contacts.length:=by omega
     refine C6 [.share] [] [] rfl rfl (by simp) (by simp[A6]) (by simp) ?_;simp only[go_sem]
theorem A61 {α:Type}{l m:List α}{i:Nat}(d:α)(h:l.take i=m.take i)(hl:i<l.length)(hm:i<m.length)(he:l.getD i d=m.getD i d):l.take (i+1)=m.take (i+1):=by rw[K9 d hl,K9 d hm,h,he]
theorem B5o {α:Type}{l m:List α}(hlen:l.length=m.length)(h:l.take l.length=m.take l.length):l=m:=by rw[List.take_length]at h;rw[hlen,List.take_length]at h;exact h
theorem E80 {α:Type}{l m:List α}{i:Nat}(d:α)(h:l.getD i d≠m.getD i d):l≠m:=λe=>h (by rw[e])
theorem E3g {α:Type}{l m:List α}(h:l.length≠m.length):l≠m:=λe=>h (by rw[e])
theorem Vec.beq(x y:Vec):(x.X==y.X&&x.Y==y.Y)=decide (x=y):=by cases x;cases y;rw[Bool.eq_iff_iff];simp
theorem PairKey.beq(x y:PairKey):(x.BodyA==y.BodyA&&(x.FixtureA==y.FixtureA&&(x.BodyB==y.BodyB&&x.FixtureB==y.FixtureB)))=decide (x=y):=by cases x;cases y;rw[Bool.eq_iff_iff];simp
theorem ContactPoint.beq(x y:ContactPoint):(x.Point.X==y.Point.X&&(x.Point.Y==y.Point.Y&&(x.Separation==y.Separation&&(x.ID==y.ID&&(x.NormalImpulse==y.NormalImpulse&&x.TangentImpulse==y.TangentImpulse)))))=decide (x=y):=by obtain⟨⟨a,b⟩,c,d,e,f⟩:=x;obtain⟨⟨a',b'⟩,c',d',e',f'⟩:=y;rw[Bool.eq_iff_iff];simp[and_assoc]
theorem D7s(l m:List Vec)(hl:l.length<=1048576):A1 Tryz.prog D6z [A2 2 Vec.enc default l,A2 2 Vec.enc default m] [] (sB (decide (l=m))) []:=by
 refine en1 hm A4 Tryz.func294 rfl rfl ?_;simp only[go_sem];split
 ·rename_i hne;exact(decide_eq_false (E3g λe=>by rw[e]at hne;simp at hne)).symm
 ·rename_i hne;have hlen:l.length=m.length:=by simp at hne;omega
  refine A9 hm (ι:= {i:Nat // i<=l.length/\l.take i=m.take i}) (λi=> [(0, .share,A2 2 Vec.enc default l),(1, .share,A2 2 Vec.enc default m),(5, .share,sI i.1)])
   (λi=> []) (λi=>l.length-i.1) ⟨0,by omega,rfl⟩ ?_ ?_
  ·refine B5 [] [] (by simp) (by simp[A6]) (by simp) ?_;simp only[go_sem]
  ·rintro⟨i,hi,ht⟩;simp only[Vec.beq,go_sem];split
   ·rename_i hlt;have hlt:i<l.length:=by omega
    have hltm:i<m.length:=by omega
    refine⟨ok_,ok_,?_⟩;by_cases he:l.getD i default=m.getD i default
    ·rw[if_neg (by rw[decide_eq_true he];simp)];refine A7 ⟨i+1,by omega,A61 default ht hlt hltm he⟩ (by show l.length-(i+1)<l.length-i;omega) (D6 [] [] ?_);simp only[go_sem];exact(by rw[IntKind.wrap_i64];omega)
    ·rw[if_pos (decide_eq_false he)];exact(decide_eq_false (E80 default he)).symm
   ·rename_i hge;have hil:i=l.length:=by omega
    subst hil;exact(decide_eq_true (B5o hlen ht)).symm
theorem F0a(l m:List PairKey)(hl:l.length<=1048576):A1 Tryz.prog E9v [A2 4 PairKey.enc default l,A2 4 PairKey.enc default m] [] (sB (decide (l=m))) []:=by
 refine en1 hm A4 Tryz.func54 rfl rfl ?_;simp only[go_sem];split
 ·rename_i hne;exact(decide_eq_false (E3g λe=>by rw[e]at hne;simp at hne)).symm
 ·rename_i hne;have hlen:l.length=m.length:=by simp at hne;omega
  refine A9 hm (ι:= {i:Nat // i<=l.length/\l.take i=m.take i}) (λi=> [(0, .share,A2 4 PairKey.enc default l),(1, .share,A2 4 PairKey.enc default m),(5, .share,sI i.1)])
   (λi=> []) (λi=>l.length-i.1) ⟨0,by omega,rfl⟩ ?_ ?_
  ·refine B5 [] [] (by simp) (by simp[A6]) (by simp) ?_;simp only[go_sem]
  ·rintro⟨i,hi,ht⟩;simp only[PairKey.beq,go_sem];split
   ·rename_i hlt;have hlt:i<l.length:=by omega
    have hltm:i<m.length:=by omega
    refine⟨ok_,ok_,?_⟩;by_cases he:l.getD i default=m.getD i default
    ·rw[if_neg (by rw[decide_eq_true he];simp)];refine A7 ⟨i+1,by omega,A61 default ht hlt hltm he⟩ (by show l.length-(i+1)<l.length-i;omega) (D6 [] [] ?_);simp only[go_sem];exact(by rw[IntKind.wrap_i64];omega)
    ·rw[if_pos (decide_eq_false he)];exact(decide_eq_false (E80 default he)).symm
   ·rename_i hge;have hil:i=l.length:=by omega
    subst hil;exact(decide_eq_true (B5o hlen ht)).symm
theorem E64(x y:Shape)(h:Shape.sm x):A1 Tryz.prog E7z [.agg x.enc, .agg y.enc] [] (sB (decide (x=y))) []:=by refine en1 hm A4 Tryz.func176 rfl rfl ?_;simp only[go_sem];refine A0 (D7s x.Vertices y.Vertices h) rfl ?_;simp only[go_sem];cases x;cases y;rw[Bool.eq_iff_iff];simp[and_assoc]
theorem C8m(x y:Fixture)(h:Fixture.sm x):A1 Tryz.prog D0x [.agg x.enc, .agg y.enc] [] (sB (decide (x=y))) []:=by refine en1 hm A4 Tryz.func105 rfl rfl ?_;simp only[go_sem];refine A0 (E64 x.Shape y.Shape h) rfl ?_;simp only[go_sem];cases x;cases y;rw[Bool.eq_iff_iff];simp[and_assoc]
theorem E61(x y:Manifold)(h:Manifold.sm x):A1 Tryz.prog E7s [.agg x.enc, .agg y.enc] [] (sB (decide (x=y))) []:=by
 unfold Manifold.sm at h;refine en1 hm A4 Tryz.func56 rfl rfl ?_;simp only[Vec.beq,go_sem];split
 ·rename_i hc;exact(decide_eq_false λe=>by subst e;simp at hc).symm
 ·rename_i hc;simp at hc;obtain⟨hn,hlen⟩:=hc;have hlen:x.Points.length=y.Points.length:=by omega
  refine A9 hm (ι:= {i:Nat // i<=x.Points.length/\x.Points.take i=y.Points.take i}) (λi=> [(2, .share, .ptr 48 0 0 1),(3, .share, .ptr 64 0 0 1),(5, .share,sI i.1)])
   (λi=> [(48, .box x.enc),(64, .box y.enc)]) (λi=>x.Points.length-i.1) ⟨0,by omega,rfl⟩ ?_ ?_
  ·refine B5 [] [] (by simp) (by simp[A6]) (by simp) ?_;simp only[go_sem]
  ·rintro⟨i,hi,ht⟩;simp only[ContactPoint.beq,go_sem];split
   ·rename_i hlt;have hlt:i<x.Points.length:=by omega
    have hltm:i<y.Points.length:=by omega
    refine⟨ok_,ok_,?_⟩;by_cases he:x.Points.getD i default=y.Points.getD i default
    ·rw[if_neg (by rw[decide_eq_true he];simp)];refine A7 ⟨i+1,by omega,A61 default ht hlt hltm he⟩ (by show x.Points.length-(i+1)<x.Points.length-i;omega) (B5 [] [] (by simp) (by simp[A6]) (by simp) ?_);simp only[go_sem];exact(by rw[IntKind.wrap_i64];omega)
    ·rw[if_pos (decide_eq_false he)];exact(decide_eq_false λe=>he (by rw[e])).symm
   ·rename_i hge;have hil:i=x.Points.length:=by omega
    subst hil;have hp:=B5o hlen ht;exact(decide_eq_true (by obtain⟨a,b⟩:=x;obtain⟨c,d⟩:=y;simp only at hn hp;rw[hn,hp])).symm
theorem E7i(x y:Body)(h:Body.sm x):A1 Tryz.prog E7c [.agg x.enc, .agg y.enc] [] (sB (decide (x=y))) []:=by
 have hb:=h.1;refine en1 hm A4 Tryz.func55 rfl rfl ?_;simp only[go_sem];split
 ·rename_i hc;exact(decide_eq_false λe=>by subst e;simp at hc).symm
 ·rename_i hc;simp at hc;have hlen:x.Fixtures.length=y.Fixtures.length:=by omega
  refine A9 hm (ι:= {i:Nat // i<=x.Fixtures.length/\x.Fixtures.take i=y.Fixtures.take i}) (λi=> [(2, .share, .ptr 48 0 0 1),(3, .share, .ptr 64 0 0 1),(5, .share,sI i.1)])
   (λi=> [(48, .box x.enc),(64, .box y.enc)]) (λi=>x.Fixtures.length-i.1) ⟨0,by omega,rfl⟩ ?_ ?_
  ·refine B5 [] [] (by simp) (by simp[A6]) (by simp) ?_;simp only[go_sem]
  ·rintro⟨i,hi,ht⟩;simp only[go_sem];by_cases hlt:i<x.Fixtures.length
   ·have hltm:i<y.Fixtures.length:=by omega
    rw[if_pos (by rw[if_pos (by omega)];exact decide_eq_true (by omega))];refine⟨ok_,ok_,?_⟩;refine A0 (C8m (x.Fixtures.getD i default) (y.Fixtures.getD i default) (h.2 _ (B6 _ hlt))) rfl ?_;simp only[go_sem];by_cases he:x.Fixtures.getD i default=y.Fixtures.getD i default
    ·rw[if_neg (by rw[decide_eq_true he];simp)];refine A7 ⟨i+1,by omega,A61 default ht hlt hltm he⟩ (by show x.Fixtures.length-(i+1)<x.Fixtures.length-i;omega) (B5 [] [] (by simp) (by simp[A6]) (by simp) ?_);simp only[go_sem];exact(by rw[IntKind.wrap_i64];omega)
    ·rw[if_pos (decide_eq_false he)];exact(decide_eq_false λe=>he (by rw[e])).symm
   ·rw[if_neg (by rw[if_neg (by omega)];simp)];have hil:i=x.Fixtures.length:=by omega
    subst hil;have hp:=B5o hlen ht;split
    ·rename_i hc;exact(decide_eq_false λe=>by subst e;simp at hc).symm
    ·rename_i hc2;clear hc hlen ht hi hlt hb h;obtain⟨x0,x1,⟨⟨x2,x3⟩,x4⟩,⟨x5,x6⟩,x7,⟨x8,x9⟩,x10,x11,x12,x13,x14,x15,x16,x17,x18,x19⟩:=x;obtain⟨y0,y1,⟨⟨y2,y3⟩,y4⟩,⟨y5,y6⟩,y7,⟨y8,y9⟩,y10,y11,y12,y13,y14,y15,y16,y17,y18,y19⟩:=y;simp only at hp;subst hp;simp at hc2;rw[Bool.eq_iff_iff];simp[hc2,and_assoc]
theorem Joint.beq(x y:Joint):((x.ID==y.ID)&&((x.Kind==y.Kind)&&((x.BodyA==y.BodyA)&&((x.BodyB==y.BodyB)&&((x.AnchorA.X==y.AnchorA.X)&&((x.AnchorA.Y==y.AnchorA.Y)&&((x.AnchorB.X==y.AnchorB.X)&&((x.AnchorB.Y==y.AnchorB.Y)&&((x.Axis.X==y.Axis.X)&&((x.Axis.Y==y.Axis.Y)&&((x.ReferenceAngle==y.ReferenceAngle)&&((x.EnableLimit==y.EnableLimit)&&((x.Lower==y.Lower)&&((x.Upper==y.Upper)&&((x.EnableMotor==y.EnableMotor)&&((x.MotorSpeed==y.MotorSpeed)&&((x.MaxForce==y.MaxForce)&&((x.Softness==y.Softness)&&((x.BreakForce==y.BreakForce)&&((x.CollideConnected==y.CollideConnected)&&((x.Impulses.I0==y.Impulses.I0)&&((x.Impulses.I1==y.Impulses.I1)&&((x.Impulses.I2==y.Impulses.I2)&&(x.Impulses.I3==y.Impulses.I3))))))))))))))))))))))))=decide (x=y):=by obtain⟨a0,a1,a2,a3,⟨a4,a5⟩,⟨a6,a7⟩,⟨a8,a9⟩,a10,a11,a12,a13,a14,a15,a16,a17,a18,a19,⟨a20,a21,a22,a23⟩⟩:=x;obtain⟨b0,b1,b2,b3,⟨b4,b5⟩,⟨b6,b7⟩,⟨b8,b9⟩,b10,b11,b12,b13,b14,b15,b16,b17,b18,b19,⟨b20,b21,b22,b23⟩⟩:=y;rw[Bool.eq_iff_iff];simp[and_assoc]
theorem Settings.beq(x y:Settings):((x.TimeStep==y.TimeStep)&&((x.Gravity.X==y.Gravity.X)&&((x.Gravity.Y==y.Gravity.Y)&&((x.Iterations==y.Iterations)&&(x.SleepSteps==y.SleepSteps)))))=decide (x=y):=by obtain⟨a0,⟨a1,a2⟩,a3,a4⟩:=x;obtain⟨b0,⟨b1,b2⟩,b3,b4⟩:=y;rw[Bool.eq_iff_iff];simp[and_assoc]
theorem E6p(x y:Api.World)(h:Wsm x):A1 Tryz.prog E70 [.agg x.enc, .agg y.enc] [] (sB (decide (x=y))) []:=by
 obtain⟨h1,h2,h3,h4,h5,h6⟩:=h;refine en1 hm A4 Tryz.func15 rfl rfl ?_;simp only[Settings.beq,go_sem];refine A0 (F0a x.Overlaps y.Overlaps h4) rfl ?_;simp only[go_sem];split
 ·rename_i hc;exact(decide_eq_false λe=>by subst e;simp at hc).symm
 ·rename_i hc;simp at hc;obtain⟨⟨⟨⟨⟨⟨e1,e2⟩,e3⟩,e4⟩,e5⟩,e6⟩,e7⟩:=hc;have l0:x.Bodies.length=y.Bodies.length:=by omega
  refine A9 hm (ι:= {i:Nat // i<=x.Bodies.length/\x.Bodies.take i=y.Bodies.take i}) (λi=> [(2, .share, .ptr 48 0 0 1),(3, .share, .ptr 64 0 0 1),(5, .share,sI i.1)])
   (λi=> [(48, .box x.enc),(64, .box y.enc)]) (λi=>x.Bodies.length-i.1) ⟨0,by omega,rfl⟩ ?_ ?_
  ·refine B5 [] [] (by simp) (by simp[A6]) (by simp) ?_;simp only[go_sem]
  ·rintro⟨i,hi,ht⟩;simp only[go_sem];split
   ·rename_i hlt;have hlt:i<x.Bodies.length:=by omega
    have hltm:i<y.Bodies.length:=by omega
    refine⟨ok_,ok_,?_⟩;refine A0 (E7i (x.Bodies.getD i default) (y.Bodies.getD i default) (h5 _ (B6 _ hlt))) rfl ?_;simp only[go_sem];by_cases he:x.Bodies.getD i default=y.Bodies.getD i default
    ·rw[if_neg (by rw[he];simp)];refine A7 ⟨i+1,by omega,A61 default ht hlt hltm he⟩ (by show x.Bodies.length-(i+1)<x.Bodies.length-i;omega) (B5 [] [] (by simp) (by simp[A6]) (by simp) ?_);simp only[go_sem];exact(by rw[IntKind.wrap_i64];omega)
    ·rw[if_pos (decide_eq_false he)];exact(decide_eq_false λe=>he (by rw[e])).symm
   ·rename_i hge;have hil:i=x.Bodies.length:=by omega
    subst hil;have p0:=B5o l0 ht;clear ht hi hge;have l1:x.Joints.length=y.Joints.length:=by omega
    refine A9 hm (ι:= {i:Nat // i<=x.Joints.length/\x.Joints.take i=y.Joints.take i}) (λi=> [(2, .share, .ptr 48 0 0 1),(3, .share, .ptr 64 0 0 1),(6, .share,sI i.1)])
     (λi=> [(48, .box x.enc),(64, .box y.enc)]) (λi=>x.Joints.length-i.1) ⟨0,by omega,rfl⟩ ?_ ?_
    ·refine B5 [] [] (by simp) (by simp[A6]) (by simp) ?_;simp only[go_sem]
    ·rintro⟨i,hi,ht⟩;simp only[Joint.beq,go_sem];split
     ·rename_i hlt;have hlt:i<x.Joints.length:=by omega
      have hltm:i<y.Joints.length:=by omega
      refine⟨ok_,ok_,?_⟩;by_cases he:x.Joints.getD i default=y.Joints.getD i default
      ·rw[if_neg (by rw[he];simp)];refine A7 ⟨i+1,by omega,A61 default ht hlt hltm he⟩ (by show x.Joints.length-(i+1)<x.Joints.length-i;omega) (B5 [] [] (by simp) (by simp[A6]) (by simp) ?_);simp only[go_sem];exact(by rw[IntKind.wrap_i64];omega)
      ·rw[if_pos (decide_eq_false he)];exact(decide_eq_false λe=>he (by rw[e])).symm
     ·rename_i hge;have hil:i=x.Joints.length:=by omega
      subst hil;have p1:=B5o l1 ht;clear ht hi hge;have l2:x.Contacts.length=y.Contacts.length:=by omega
      refine A9 hm (ι:= {i:Nat // i<=x.Contacts.length/\x.Contacts.take i=y.Contacts.take i}) (λi=> [(2, .share, .ptr 48 0 0 1),(3, .share, .ptr 64 0 0 1),(7, .share,sI i.1)])
       (λi=> [(48, .box x.enc),(64, .box y.enc)]) (λi=>x.Contacts.length-i.1) ⟨0,by omega,rfl⟩ ?_ ?_
      ·refine B5 [] [] (by simp) (by simp[A6]) (by simp) ?_;simp only[go_sem]
      ·rintro⟨i,hi,ht⟩;simp only[PairKey.beq,go_sem];split
       ·rename_i hlt;have hlt:i<x.Contacts.length:=by omega
        have hltm:i<y.Contacts.length:=by omega
        refine⟨ok_,ok_,?_⟩;refine⟨ok_,ok_,?_⟩;refine A0 (E61 (x.Contacts.getD i default).Manifold (y.Contacts.getD i default).Manifold (h6 _ (B6 _ hlt))) rfl ?_;simp only[go_sem];by_cases he:x.Contacts.getD i default=y.Contacts.getD i default
        ·rw[if_neg (by rw[he];simp)];refine A7 ⟨i+1,by omega,A61 default ht hlt hltm he⟩ (by show x.Contacts.length-(i+1)<x.Contacts.length-i;omega) (B5 [] [] (by simp) (by simp[A6]) (by simp) ?_);simp only[go_sem];exact(by rw[IntKind.wrap_i64];omega)
        ·rw[if_pos (by
          by_cases hk:(x.Contacts.getD i default).Key=(y.Contacts.getD i default).Key
          ·by_cases hm2:(x.Contacts.getD i default).Manifold=(y.Contacts.getD i default).Manifold
           ·exact absurd (by generalize x.Contacts.getD i default=a at*;generalize y.Contacts.getD i default=b at*;cases a;cases b;simp only at hk hm2;rw[hk,hm2]) he
           ·simp only[hm2,decide_false,Bool.not_false,Bool.or_true]
          ·simp only[hk,decide_false,Bool.not_false,Bool.true_or])]
         exact(decide_eq_false λe=>he (by rw[e])).symm
       ·rename_i hge;have hil:i=x.Contacts.length:=by omega
        subst hil;have p2:=B5o l2 ht;clear ht hi hge;exact(decide_eq_true (by obtain⟨a1,a2,a3,a4,a5,a6,a7⟩:=x;obtain⟨b1,b2,b3,b4,b5,b6,b7⟩:=y;simp only at e1 e2 e3 e7 p0 p1 p2;subst e1 e2 e3 e7 p0 p1 p2;rfl)).symm
def sat(x:Int):Int:=if x>536870911 then 536870911 else if x < -536870911 then -536870911 else x
theorem S1(x:Int): -536870911<=sat x/\sat x<=536870911:=by unfold sat;split <;> (try split) <;> omega
def B3t(v:Vec):Vec:=⟨sat v.X,sat v.Y⟩
theorem J7(x:Int):A1 Tryz.prog D4c [sI x] [] (sI (sat x)) []:=by
 refine en1 hm A4 Tryz.func406 rfl rfl ?_;simp only[go_sem];unfold sat
 (repeat' split) <;> omega
theorem A7o(x:Int):A1 Tryz.prog D9t [sI x] [] (sI (sat x)) []:=by
 refine en1 hm A4 Tryz.func355 rfl rfl ?_;simp only[go_sem];unfold sat
 (repeat' split) <;> omega
theorem A0y(v:Vec):A1 Tryz.prog D7z [.agg v.enc] [] (.agg (B3t v).enc) []:=by refine L5 10 [(2,some (some 2))] hm A4 Tryz.func393 rfl ?_;simp only[go_sem];refine A0 (J7 v.X) rfl ?_;simp only[go_sem];refine A0 (J7 v.Y) rfl ?_;simp only[B3t,go_sem]
theorem A9n(v:Vec):A1 Tryz.prog D7b [.agg v.enc] [] (.agg (B3t v).enc) []:=by refine L5 10 [(2,some (some 2))] hm A4 Tryz.func224 rfl ?_;simp only[go_sem];refine A0 (A7o v.X) rfl ?_;simp only[go_sem];refine A0 (A7o v.Y) rfl ?_;simp only[B3t,go_sem]
def A9q(a b:Vec):Int:=(sat b.X-sat a.X)*(sat b.X-sat a.X)+(sat b.Y-sat a.Y)*(sat b.Y-sat a.Y)
theorem C4d {x m:Int}(h1: -m<=x)(h2:x<=m):0<=x*x/\x*x<=m*m:=by
 have h0:0<=m:=by omega
 constructor
 ·rcases Int.le_total 0 x with h |h
  ·exact Int.mul_nonneg h h
  ·exact Int.mul_nonneg_of_nonpos_of_nonpos h h
 ·rcases Int.le_total 0 x with h |h
  ·exact Int.mul_le_mul h2 h2 h h0
  ·have:=Int.mul_le_mul (show -x<=m by omega) (show -x<=m by omega) (show 0<= -x by omega) h0
   rwa[Int.neg_mul_neg]at this
theorem V8(a b:Vec):A1 Tryz.prog C1d [.agg a.enc, .agg b.enc] [] (sI (A9q a b)) []:=by
 refine en1 hm A4 Tryz.func404 rfl rfl ?_;simp only[go_sem];refine A0 (A0y a) rfl ?_;simp only[go_sem];refine A0 (A0y b) rfl ?_;simp only[B3t,go_sem];have a1:=S1 a.X;have a2:=S1 a.Y;have b1:=S1 b.X;have b2:=S1 b.Y
 have w1:IntKind.i64.wrap (sat b.X-sat a.X)=sat b.X-sat a.X:=by rw[IntKind.wrap_i64];omega
 have w2:IntKind.i64.wrap (sat b.Y-sat a.Y)=sat b.Y-sat a.Y:=by rw[IntKind.wrap_i64];omega
 have h1:=C4d (x:=sat b.X-sat a.X) (m:=1073741822) (by omega) (by omega)
 have h2:=C4d (x:=sat b.Y-sat a.Y) (m:=1073741822) (by omega) (by omega);rw[w1,w2];unfold A9q;generalize(sat b.X-sat a.X)*(sat b.X-sat a.X)=p at*;generalize(sat b.Y-sat a.Y)*(sat b.Y-sat a.Y)=q at*;simp only[IntKind.wrap_i64];omega
def B9q(n:Nat):Nat->Nat->Nat
 |0,r=>r
 |k+1,r=>B9q n k (if(r+2^k)*(r+2^k)<=n then r+2^k else r)
def isq(n:Int):Int:=if n<0\/n>4611686018427387904 then 0 else B9q n.toNat 32 0
def C4v:Nat->Int
 |0=>0
 |k+1=>((2^k:Nat):Int)
theorem G2m {r k:Nat}(hr:2^(k+1)∣r)(hlt:r<4294967296)(hk:k<32):IntKind.i64.wrap (((BitVec.ofInt 64 (r:Int) ||| BitVec.ofInt 64 ((2^k:Nat):Int)).toNat:Nat):Int)=((r+2^k:Nat):Int):=by
 obtain⟨q,rfl⟩:=hr;have hp:2^k<2^(k+1):=Nat.pow_lt_pow_right (by omega) (by omega)
 have hp2:2^k<=2^31:=Nat.pow_le_pow_right (by omega) (by omega)
 have e:(BitVec.ofInt 64 ((2^(k+1)*q:Nat):Int) ||| BitVec.ofInt 64 ((2^k:Nat):Int)).toNat=2^(k+1)*q+2^k:=by rw[BitVec.toNat_or,BitVec.ofInt_natCast,BitVec.ofInt_natCast,BitVec.toNat_ofNat,BitVec.toNat_ofNat,Nat.mod_eq_of_lt (by omega),Nat.mod_eq_of_lt (by omega),Nat.two_pow_add_eq_or_of_lt hp]
 rw[e,IntKind.wrap_i64];omega
theorem E8k {n:Int}(h:n<0\/n>4611686018427387904):isq n=0:=by unfold isq;rw[if_pos h]
theorem E3s {n:Int}(h: ¬(n<0\/n>4611686018427387904)):isq n=B9q n.toNat 32 0:=by unfold isq;rw[if_neg h]
theorem F4r(k:Nat):((2^k:Nat):Int).fdiv (2^min 1 64)=C4v k:=by
 rw[Int.fdiv_eq_ediv_of_nonneg _ (by decide)];cases k with
 |zero=>decide
 |succ k=>show((2^(k+1):Nat):Int) / 2=((2^k:Nat):Int);rw[Nat.pow_succ];omega
theorem E43 {r k:Nat}(hr:2^(k+1)∣r)(hlt:r+2^(k+1)<=4294967296):2^k∣r/\r+2^k<=4294967296/\2^k∣r+2^k/\r+2^k+2^k<=4294967296/\0<2^k:=by
 have hp:2^(k+1)=2^k*2:=Nat.pow_succ 2 k
 have h1:2^k∣r:=Nat.dvd_trans ⟨2,hp⟩ hr
 have h0:0<2^k:=Nat.two_pow_pos k;exact⟨h1,by omega,Nat.dvd_add h1 (Nat.dvd_refl _),by omega,h0⟩
theorem B2d(n:Int):A1 Tryz.prog E2m [sI n] [] (sI (isq n)) []:=by
 refine en1 hm A4 Tryz.func403 rfl rfl ?_;simp only[go_sem];by_cases hn:n<0\/n>4611686018427387904
 ·rw[if_pos (by by_cases h:n<0;rw[if_pos h];rw[if_neg h];exact decide_eq_true (by omega)),E8k hn]
 ·rw[if_neg (by rw[if_neg (by omega),decide_eq_false (by omega)];simp),E3s hn];refine A9 hm (ι:= {p:Nat×Nat // p.1<=32/\2^p.1∣p.2/\p.2+2^p.1<=4294967296/\B9q n.toNat p.1 p.2=B9q n.toNat 32 0}) (λp=> [(0, .share,sI n),(3, .share,sI p.1.2),(4, .share,sI (C4v p.1.1))])
   (λp=> []) (λp=>p.1.1) ⟨(32,0),by decide,by decide,by decide,rfl⟩ ?_ ?_
  ·refine D6 [] [] ?_;simp only[go_sem];decide
  ·rintro⟨⟨k,r⟩,hk,hr,hlt,he⟩;simp only at hk hr hlt he;simp only[go_sem];cases k with
   |zero=>rw[if_neg (by decide)];rw[<-he];rfl
   |succ k=>
    obtain⟨a1,a2,a3,a4,a5⟩:=E43 hr hlt;rw[if_pos (by show(0:Int)<((2^k:Nat):Int);omega)];have hor:=G2m hr (by omega) (show k<32 by omega)
    have hu: ∀m:Nat,m<18446744073709551616->IntKind.u64.wrap (m:Int)=m:=λm hm'=>by rw[IntKind.wrap_u64];omega
    have hun:IntKind.u64.wrap n=n:=by rw[IntKind.wrap_u64];omega
    have hsq:(r+2^k)*(r+2^k)<18446744073709551616:=by
     have h1:r+2^k<=4294967295:=by omega
     have:=Nat.mul_le_mul h1 h1;omega
    simp only[show C4v (k+1)=((2^k:Nat):Int)from rfl,hun,F4r];have key: ∀X:Int,X=((r+2^k:Nat):Int)->IntKind.u64.wrap (IntKind.u64.wrap X*IntKind.u64.wrap X)=(((r+2^k)*(r+2^k):Nat):Int):=λX hX=>by rw[hX,hu (r+2^k) (by omega),<-Int.natCast_mul,hu _ hsq]
    generalize hX:IntKind.i64.wrap _=X;have hX2:X=((r+2^k:Nat):Int):=hX.symm.trans hor;rw[key X hX2];clear hX;subst hX2;by_cases hc:(r+2^k)*(r+2^k)<=n.toNat
    ·rw[if_pos (by omega)];refine⟨by decide,?_⟩;refine A7 ⟨(k,r+2^k),by show k<=32;omega,a3,a4,by rw[<-he];simp only[B9q,hc,if_true]⟩ (Nat.lt_succ_self k) (D6 [] [] ?_);simp only[go_sem]
    ·rw[if_neg (by omega)];refine⟨by decide,?_⟩;refine A7 ⟨(k,r),by show k<=32;omega,a1,a2,by rw[<-he];simp only[B9q,hc,if_false]⟩ (Nat.lt_succ_self k) (D6 [] [] ?_);simp only[go_sem]
theorem B2v(n:Int):A1 Tryz.prog D4q [sI n] [] (sB (decide (n>4611686018427387904\/n < -4611686018427387904))) []:=by
 refine en1 hm A4 Tryz.func356 rfl rfl ?_;simp only[go_sem];by_cases h:4611686018427387904<n
 ·rw[if_pos h];exact(decide_eq_true (by omega)).symm
 ·rw[if_neg h];exact decide_eq_decide.2 (by omega)
theorem F4t(k:Nat):IntKind.i64.wrap (((2^k:Nat):Int).tdiv 2)=C4v k\/62<k:=by
 by_cases h:62<k
 ·exact .inr h
 ·left;have hp2:2^k<=2^62:=Nat.pow_le_pow_right (by omega) (by omega);cases k with
  |zero=>decide
  |succ k=>show IntKind.i64.wrap (((2^(k+1):Nat):Int).tdiv 2)=((2^k:Nat):Int);rw[Nat.pow_succ]at*;rw[Int.tdiv_eq_ediv_of_nonneg (by omega),IntKind.wrap_i64];omega
theorem E63(n:Int):A1 Tryz.prog E68 [sI n] [] (sI (isq n)) []:=by
 refine en1 hm A4 Tryz.func225 rfl rfl ?_;simp only[go_sem];refine A0 (B2v n) rfl ?_;simp only[go_sem];by_cases hn:n<0\/n>4611686018427387904
 ·rw[if_pos (by by_cases h:n<0;rw[if_pos h];rw[if_neg h];exact decide_eq_true (by omega)),E8k hn]
 ·rw[if_neg (by rw[if_neg (by omega),decide_eq_false (by omega)];simp),E3s hn];refine A9 hm (ι:= {p:Nat×Nat // p.1<=32/\2^p.1∣p.2/\p.2+2^p.1<=4294967296/\B9q n.toNat p.1 p.2=B9q n.toNat 32 0}) (λp=> [(0, .share,sI n),(3, .share,sI p.1.2),(4, .share,sI (C4v p.1.1))])
   (λp=> []) (λp=>p.1.1) ⟨(32,0),by decide,by decide,by decide,rfl⟩ ?_ ?_
  ·refine D6 [] [] ?_;simp only[go_sem];decide
  ·rintro⟨⟨k,r⟩,hk,hr,hlt,he⟩;simp only at hk hr hlt he;simp only[go_sem];cases k with
   |zero=>rw[if_neg (by decide)];rw[<-he];rfl
   |succ k=>
    obtain⟨a1,a2,a3,a4,a5⟩:=E43 hr hlt;rw[if_pos (by show(0:Int)<((2^k:Nat):Int);omega)];have hw:IntKind.i64.wrap ((r:Int)+((2^k:Nat):Int))=((r+2^k:Nat):Int):=by rw[IntKind.wrap_i64];omega
    have hdiv:IntKind.i64.wrap (n.tdiv ((r+2^k:Nat):Int))=((n.toNat / (r+2^k):Nat):Int):=by
     rw[Int.tdiv_eq_ediv_of_nonneg (by omega)];have e:n=(n.toNat:Int):=by omega
     rw[e,<-Int.natCast_ediv,Int.toNat_natCast];have:n.toNat / (r+2^k)<=n.toNat:=Nat.div_le_self _ _;generalize n.toNat / (r+2^k)=q at*;rw[IntKind.wrap_i64];omega
    have hhalf:IntKind.i64.wrap (((2^k:Nat):Int).tdiv 2)=C4v k:=(F4t k).resolve_right (by omega);simp only[show C4v (k+1)=((2^k:Nat):Int)from rfl,hw,hdiv,hhalf];refine⟨by omega,?_⟩;have hiff:(r+2^k<=n.toNat / (r+2^k))↔(r+2^k)*(r+2^k)<=n.toNat:=Nat.le_div_iff_mul_le (by omega);by_cases hc:(r+2^k)*(r+2^k)<=n.toNat
    ·rw[if_pos (Int.ofNat_le.2 (hiff.2 hc))];refine⟨by decide,?_⟩;refine A7 ⟨(k,r+2^k),by show k<=32;omega,a3,a4,by rw[<-he];simp only[B9q,hc,if_true]⟩ (Nat.lt_succ_self k) (D6 [] [] ?_);simp only[go_sem]
    ·rw[if_neg (λh=>hc (hiff.1 (Int.ofNat_le.1 h)))];refine⟨by decide,?_⟩;refine A7 ⟨(k,r),by show k<=32;omega,a1,a2,by rw[<-he];simp only[B9q,hc,if_false]⟩ (Nat.lt_succ_self k) (D6 [] [] ?_);simp only[go_sem]
def A32(v:Vec):Int:=isq (A9q ⟨0,0⟩ v)
theorem U6(v:Vec):A1 Tryz.prog E1l [.agg v.enc] [] (sI (A32 v)) []:=by refine en1 hm A4 Tryz.func271 rfl rfl ?_;simp only[go_sem];refine A0 (V8 ⟨0,0⟩ v) rfl ?_;simp only[go_sem];refine A0 (B2d _) rfl ?_;simp only[A32,go_sem]
theorem B9u(v:Vec):A1 Tryz.prog E5c [.agg v.enc] [] (sI (A32 v)) []:=by
 refine en1 hm A4 Tryz.func136 rfl rfl ?_;simp only[go_sem];refine A0 (A9n v) rfl ?_;simp only[B3t,go_sem];have e0:sat 0=0:=by decide
 have h:IntKind.i64.wrap (IntKind.i64.wrap (sat v.X*sat v.X)+IntKind.i64.wrap (sat v.Y*sat v.Y))=A9q ⟨0,0⟩ v:=by
  have b1:=S1 v.X;have b2:=S1 v.Y
  have h1:=C4d b1.1 b1.2
  have h2:=C4d b2.1 b2.2;simp only[A9q,e0,Int.sub_zero];generalize sat v.X*sat v.X=p at*;generalize sat v.Y*sat v.Y=q at*;simp only[IntKind.wrap_i64];omega
 rw[h];refine A0 (E63 _) rfl ?_;simp only[A32,go_sem]
def F14(b:Body):Bool:= !b.NoSleep&&decide (A32 b.Velocity<=4096)&&decide (-4096<=b.AngularVelocity)&&decide (b.AngularVelocity<=4096)
theorem D8h(b:Body):A1 Tryz.prog D8n [.agg b.enc] [] (sB (F14 b)) []:=by refine en1 hm A4 Tryz.func327 rfl rfl ?_;simp only[go_sem];refine A0 (U6 b.Velocity) rfl ?_;simp only[go_sem];rfl
def B27(b:Body):Body:= {b with IdleSteps:=if F14 b then IntKind.i64.wrap ((if 1048575<b.IdleSteps then 1048575 else b.IdleSteps)+1)else 0}
theorem D0h(b:Body):A1 Tryz.prog D0s [.agg b.enc] [] (.agg (B27 b).enc) []:=by
 refine L5 12 [(2,some (some 20))] hm A4 Tryz.func198 rfl ?_;simp only[go_sem];refine A0 (D8h b) rfl ?_;simp only[go_sem];split
 ·rename_i h;simp only[B27,h,go_sem]
 ·rename_i h;simp only[B27,h,Bool.false_eq_true,go_sem]
def okO(O:List (Nat×A5)):Prop:=(O.map (·.1)).Nodup/\ ∀p∈O,∀cs,p.2= .box cs-> ∀j∈F4 cs,(ofL O j).isSome
theorem B4d {O:List (Nat×A5)}(hn:(O.map (·.1)).Nodup){i:Nat}{o:A5}(h:(i,o)∈O):ofL O i=some o:=by
 rw[B8h O hn];have:O.find? (λp=>p.1==i)=some (i,o):=by
  induction O with
  |nil=>cases h
  |cons p O ih=>
   simp only[List.map_cons,List.nodup_cons]at hn;rcases List.mem_cons.1 h with e |h'
   ·subst e;simp
   ·have hne:p.1≠i:=λe=>hn.1 (e▸List.mem_map_of_mem (f:=(·.1)) h')
    simp only[List.find?_cons,beq_eq_false_iff_ne.2 hne];exact ih hn.2 h'
 rw[this];rfl
theorem D78 {O:List (Nat×A5)}: ∀ {cs:List AV},(∀j∈F4 cs,(ofL O j).isSome)->C0h id [] O cs cs
 | [],_=> .nil
 |c::cs,h=>by refine .cons ?_ (D78 λj hj=>h j (by simp[F4,hj]));have:B9g id [] O (c.ren id) c:= .share λj hj=>⟨h j (by simp[F4,hj]),by simp⟩;rwa[AV.ren_id]at this
theorem D3m {O:List (Nat×A5)}(h:okO O): ∀(l:List (Nat×A5)),(∀p∈l,p∈O)->D0v (ofL O) id [] O l
 | [],_=>trivial
 |(i,o)::l,hl=>by
  refine⟨?_,D3m h l λp hp=>hl p (List.mem_cons_of_mem _ hp)⟩;have hio:=hl (i,o) (List.mem_cons_self ..);rw[if_neg (by simp)];simp only[id,B4d h.1 hio];cases o with
  |box cs=>exact .inl ⟨cs,cs,rfl,rfl,D78 (h.2 _ hio cs rfl)⟩
  |_=>exact .inr ⟨(λcs e=>by cases e),(λcs e=>by cases e), .inl rfl⟩
theorem V4 {σ:St}{T:H7}{O:List (Nat×A5)}(h:okO O)(hobj:σ.objs=ofL O)(hs:A2v σ id [] O T [] λwr=>wr= []):Y2 (O.map (·.1)) σ T O:=by
 refine⟨id,[],h.1,(by have e:(List.map (λx=>x.fst) O).filter (λi=> !([]:List Nat).contains i)=List.map (λx=>x.fst) O:=List.filter_eq_self.2 (λa _=>by simp);simp only[e,List.map_id];exact h.1),λk hk=>⟨by simp,rfl,?_⟩,B29 (λwr hwr=> ?_) T [] hs⟩
 ·rw[List.mem_map]at hk;obtain⟨p,hp,rfl⟩:=hk;rw[B4d h.1 hp];rfl
 ·subst hwr;have:wrm σ.objs []=ofL O:=hobj;rw[this];exact D3m h O λ_ hp=>hp
theorem Q9 {σ:St}{ts:List Nat}{rs:List AV}{O:List (Nat×A5)}(md:List C07)(hm:md.length=ts.length)(hr:rs.length=ts.length)(h:okO O)(hobj:σ.objs=ofL O)(hs:A2v σ id [] O (B8v ts md rs) [] λwr=>wr= []):
  A8g (O.map (·.1)) σ ts rs O:=⟨md,hm,hr,V4 h hobj hs⟩
theorem B51(o:A5):o.ren id=o:=by cases o <;> simp only[A5.ren];rw[M9]
theorem U3 {O:List (Nat×A5)}(h:okO O):wrm (ofL O) (A3n id O)=ofL O:=by
 rw[D1w];funext x;rw[C3u O _ h.1];cases hf:O.find? (λp=>p.1==x)with
 |none=>rfl
 |some p=>have h1:=List.find?_some hf;simp only[beq_iff_eq]at h1;subst h1;exact(B4d h.1 (List.mem_of_find?_eq_some hf)).symm
theorem B1k {m:Nat->Option A5}{O:List (Nat×A5)}: ∀ {avs:List AV},(∀a∈avs,∀i∈a.ids,(ofL O i).isSome)->R3 m id O (avs.map λ_=>true) avs avs []
 | [],_=>rfl
 |a::avs,h=>⟨AV.ren_id a,h a (List.mem_cons_self ..),B1k λb hb=>h b (List.mem_cons_of_mem _ hb)⟩
theorem V7 {P:Program}{m:Nat->Option A5}{f:FuncId}{avs:List AV}{b:Bool}{Q:ContR}{O:List (Nat×A5)}{r:AV}(hc:A1 P f avs O r O)(h:okO O)(hm:m=ofL O)
  (ha: ∀a∈avs,∀i∈a.ids,(ofL O i).isSome)(hb:b=true)(hK: @Ri Q b ⟨some r,A3n id O⟩): @A4x P m f avs b Q:=by
 refine⟨⟨some r,A3n id O⟩,λ_=> ?_,λ_=>hb,hK⟩;have:=T5.mk (P:=P) (m:=m) (avs.map λ_=>true) avs O r O id [] false hc (B1k ha)
  (λi o hi=>by rw[B51];subst hm;exact hi)
  (λi cs hi j hj=>h.2 _ (A05 h.1 hi) cs rfl j hj) (λi hi=>hi) (λi hi=> .inl hi) (by simpa using h.1) (λe=>by cases e)
 simpa[AV.ren_id]using this
def B1b(p:Int->Bool)(l:List Int):Int:=match(List.range l.length).find? (λi=>p (l.getD i 0))with |some i=>i |none=> -1
theorem D8w {p:Int->Bool}{l:List Int}{i:Nat}(hi:i<l.length)(h: ∀j,j<i->p (l.getD j 0)=false)(hp:p (l.getD i 0)=true):B1b p l=i:=by
 have:(List.range l.length).find? (λi=>p (l.getD i 0))=some i:=by rw[List.find?_range_eq_some];exact⟨hp,by simpa using hi,λj hj=>by simp only[h j hj,Bool.not_false]⟩
 unfold B1b;rw[this]
theorem C0s {p:Int->Bool}{l:List Int}(h: ∀j,j<l.length->p (l.getD j 0)=false):B1b p l= -1:=by
 have:(List.range l.length).find? (λi=>p (l.getD i 0))=none:=by rw[List.find?_range_eq_none];exact λj hj=>by simp only[h j hj,Bool.not_false]
 unfold B1b;rw[this]
theorem D4i(p:Int->Bool)(l:List Int):decide (0<=B1b p l)=l.any p:=by
 cases h:l.any p with
 |true=>
  rw[List.any_eq_true]at h;obtain⟨x,hx,hp⟩:=h;obtain⟨k,hk,rfl⟩:=List.getElem_of_mem hx;unfold B1b;cases hf:(List.range l.length).find? (λi=>p (l.getD i 0))with
  |none=>rw[List.find?_range_eq_none]at hf;have:=hf k hk;simp[List.getD,hk,hp]at this
  |some i=>simp
 |false=>rw[List.any_eq_false]at h;rw[C0s λj hj=>by simpa using h _ (B6 0 hj)];decide
theorem C96(l:List Int)(x:Int)(hl:l.length<=1048576):A1 Tryz.prog C9y [A2 1 B9 0 l, .sc (.int .i64 x)] [] (.sc (.int .i64 (B1b (λy=>x==y) l))) []:=by
 refine en1 hm A4 Tryz.func395 rfl rfl ?_;simp only[go_sem];refine A9 hm (ι:= {i:Nat // i<=l.length/\ ∀j,j<i->(x==l.getD j 0)=false}) (λi=> [(0, .share,A2 1 B9 0 l),(1, .share, .sc (.int .i64 x)),(7, .share, .sc (.int .i64 l.length)),(8, .share, .sc (.int .i64 i.1))])
  (λi=> []) (λi=>l.length-i.1) ⟨0,by omega,λj hj=>by omega⟩ ?_ ?_
 ·refine D6 [] [] ?_;simp only[go_sem]
 ·rintro⟨i,hi,hs⟩;simp only[go_sem];split
  ·rename_i hlt;have hlt:i<l.length:=by omega
   refine⟨ok_,?_⟩;cases hx:(x==l.getD i 0)with
   |true=>rw[if_pos rfl];exact(D8w hlt hs hx).symm
   |false=>rw[if_neg (by simp)];refine A7 ⟨i+1,by omega,λj hj=>by rcases Nat.lt_succ_iff_lt_or_eq.1 hj with h |rfl;exact hs j h;exact hx⟩ (by show l.length-(i+1)<l.length-i;omega) (D6 [] [] ?_);simp only[go_sem];exact(by rw[IntKind.wrap_i64];omega)
  ·rename_i hge;exact(C0s λj hj=>hs j (by omega)).symm
theorem C2s(l:List Int)(x:Int)(hl:l.length<=1048576):A1 Tryz.prog C3s [A2 1 B9 0 l, .sc (.int .i64 x)] [] (.sc (.bool (l.any λy=>x==y))) []:=by refine en1 hm A4 Tryz.func259 rfl rfl ?_;simp only[go_sem];refine A0 (C96 l x hl) rfl ?_;simp only[D4i,go_sem]
theorem A60(l:List Int)(f:FuncId)(first cap:List AV)(O:List (Nat×A5))(p:Int->Bool)(hl:l.length<=1000000000)(hO:okO O)
  (hids: ∀i∈(AV.fn (.func f) first cap).ids,(ofL O i).isSome)
  (hp: ∀x∈l,A1 Tryz.prog f (first++ [.sc (.int .i64 x)]++cap) O (.sc (.bool (p x))) O):
  A1 Tryz.prog B1j [A2 1 B9 0 l, .fn (.func f) first cap] O (.sc (.int .i64 (B1b p l))) O:=by
 have hren:(AV.fn (.func f) first cap).ren id= .fn (.func f) first cap:=AV.ren_id _
 have hargs: ∀x:Int,∀a∈first++ [.sc (.int .i64 x)]++cap,∀i∈a.ids,(ofL O i).isSome:=λx a ha i hi=>by
  simp only[List.mem_append,List.mem_singleton]at ha;refine hids i ?_;simp only[AV.ids,List.mem_append];rcases ha with(ha |rfl) |ha
  ·obtain⟨k,hk⟩:=List.getElem?_of_mem ha;exact .inl (N2 hk i hi)
  ·simp[AV.ids]at hi
  ·obtain⟨k,hk⟩:=List.getElem?_of_mem ha;exact .inr (N2 hk i hi)
 refine H8 hm A4 Tryz.func190 rfl rfl ?_;simp only[go_sem];refine A9 hm (ι:= {i:Nat // i<=l.length/\ ∀j,j<i->p (l.getD j 0)=false}) (λi=> [(0, .share,A2 1 B9 0 l),(1, .share, .fn (.func f) first cap),(7, .share, .sc (.int .i64 l.length)),(8, .share, .sc (.int .i64 i.1))])
  (λi=>O) (λi=>l.length-i.1) ⟨0,by omega,λj hj=>by omega⟩ ?_ ?_
 ·refine V4 hO rfl ?_;simp only[go_sem];exact⟨by rw[M9,M9],λi hi=>hids i hi⟩
 ·rintro⟨i,hi,hs⟩;simp only[go_sem];split
  ·rename_i hlt;have hlt:i<l.length:=by omega
   refine⟨ok_,?_⟩;have hx:A1 Tryz.prog f (first++ .sc (.int .i64 (l.getD i 0))::cap) O (.sc (.bool (p (l.getD i 0)))) O:=by have:=hp (l.getD i 0) (B6 0 hlt);rwa[List.append_assoc]at this
   refine V7 hx hO rfl (λa ha=>hargs (l.getD i 0) a (by rw[List.append_assoc];exact ha)) rfl ?_;simp only[go_sem];cases hpx:p (l.getD i 0)with
   |true=>rw[if_pos rfl];refine Q9 [.share] rfl rfl hO (U3 hO) ?_;simp only[go_sem];exact(D8w hlt hs hpx).symm
   |false=>rw[if_neg (by simp)];refine A7 ⟨i+1,by omega,λj hj=>by rcases Nat.lt_succ_iff_lt_or_eq.1 hj with h |rfl;exact hs j h;exact hpx⟩ (by show l.length-(i+1)<l.length-i;omega) (V4 hO (U3 hO) ?_);simp only[go_sem];exact⟨by rw[M9,M9],λi hi=>hids i hi,(by rw[IntKind.wrap_i64];omega)⟩
  ·rename_i hge;refine Q9 [.share] rfl rfl hO rfl ?_;simp only[go_sem];exact(C0s λj hj=>hs j (by omega)).symm
theorem A43(l:List Int)(f:FuncId)(first cap:List AV)(O:List (Nat×A5))(p:Int->Bool)(hl:l.length<=1000000000)(hO:okO O)
  (hids: ∀i∈(AV.fn (.func f) first cap).ids,(ofL O i).isSome)
  (hp: ∀x∈l,A1 Tryz.prog f (first++ [.sc (.int .i64 x)]++cap) O (.sc (.bool (p x))) O):
  A1 Tryz.prog A9d [A2 1 B9 0 l, .fn (.func f) first cap] O (.sc (.bool (l.any p))) O:=by
 refine H8 hm A4 Tryz.func328 rfl rfl ?_;simp only[go_sem];refine V7 (A60 l f first cap O p hl hO hids hp) hO rfl ?_ rfl ?_
 ·intro a ha;simp only[List.mem_cons,List.not_mem_nil,or_false]at ha;rcases ha with rfl |rfl
  ·intro i hi;simp[AV.ids]at hi
  ·exact hids
 ·simp only[go_sem];refine Q9 [.share] rfl rfl hO (U3 hO) ?_;simp only[go_sem];exact D4i p l
mutual
theorem D7w {ρ:Nat->Nat}: ∀(c:AV),c.ids= []->c.ren ρ=c
 | .sc _,_=>rfl
 | .dsl ..,_=>rfl
 | .dslx ..,_=>rfl
 | .sl ..,h=>by simp[AV.ids]at h
 | .ptr ..,h=>by simp[AV.ids]at h
 | .mp _,h=>by simp[AV.ids]at h
 | .fptr _,_=>rfl
 | .own ..,_=>rfl
 | .hole,_=>rfl
 | .agg cs,h=>by simp only[AV.ren,B13 cs (by simpa[AV.ids]using h)]
 | .tup cs,h=>by simp only[AV.ren,B13 cs (by simpa[AV.ids]using h)]
 | .fn f a b,h=>by simp only[AV.ids,List.append_eq_nil_iff]at h;simp only[AV.ren,B13 a h.1,B13 b h.2]
theorem B13 {ρ:Nat->Nat}: ∀(l:List AV),F4 l= []->A7v ρ l=l
 | [],_=>rfl
 |a::l,h=>by simp only[F4,List.append_eq_nil_iff]at h;simp only[A7v,D7w a h.1,B13 l h.2]
end
theorem E6d {P:Program}{m:Nat->Option A5}{f:FuncId}{b:Bool}{Q:ContR}{avs cargs:List AV}{O':List (Nat×A5)}{r:AV}(ρs:List (Nat×Nat))(hc:A1 P f cargs [] r O')
  (hr:r.noDsl=true)(ho: ∀p∈O',p.2.NoDsl)(hnO':(O'.map (·.1)).Nodup)(hnd:(O'.map λp=>A6 ρs p.1).Nodup)
  (ha:A02 m avs cargs [] λ_=>True)(hn:C8e m (A6 ρs) [] O')(hb:b=true)(hK: @Ri Q b ⟨some (r.ren (A6 ρs)),A3n (A6 ρs) O'⟩):
  @A4x P m f avs b Q:=by
 obtain⟨md0,cs,wr,h1,h2,_⟩:=C5i ha;have h1': ∃md,R3 m (A6 ρs) [] md avs cs wr:=by
  clear hc h2 ha;induction avs generalizing md0 cs wr with
  |nil=>cases md0 <;> cases cs <;> first |exact⟨[],h1⟩ |simp[R3]at h1
  |cons a avs ih=>
   cases md0 with
   |nil=>cases cs <;> simp[R3]at h1
   |cons x md=>
    cases cs with
    |nil=>cases x <;> simp[R3]at h1
    |cons c cs=>
     cases x with
     |true=>
      obtain⟨e1,e2,e3⟩:=h1;obtain⟨md',h'⟩:=ih md cs wr e3;refine⟨true::md',?_,e2,h'⟩;have:c.ids= []:=by
       cases hids:c.ids with
       |nil=>rfl
       |cons i l=>have:=e2 i (by rw[hids];simp);simp[ofL,wrm]at this
      rw[AV.ren_id]at e1;rw[<-e1];exact D7w c this
     |false=>obtain⟨p,w1,w2,f1,f2,rfl,f3⟩:=h1;obtain⟨md',h'⟩:=ih md cs w2 f3;exact⟨false::md',p,w1,w2,f1,f2,rfl,h'⟩
 obtain⟨md,h1'⟩:=h1';have:=T5.mk (P:=P) (m:=m) md cs [] r O' (A6 ρs) wr true (hc.args_le h2) h1' (λi o hi=>by simp[ofL,wrm]at hi) (λi cs hi=>by simp[ofL,wrm]at hi) (λi hi=>by simp[ofL,wrm]at hi)
  (λi hi=>by obtain⟨o,ho'⟩:=A85 hi;exact B8r hn i o ho') hnd (λ_=>⟨hr,λi o hi=>ho _ (A05 hnO' hi)⟩)
 exact⟨⟨some (r.ren (A6 ρs)),A3n (A6 ρs) O'⟩,λ_=>(by simpa using this),λ_=>hb,hK⟩
theorem A1h {P:Program}{m:Nat->Option A5}{f:FuncId}{avs:List AV}{b:Bool}{Q:ContR}{O:List (Nat×A5)}{r:AV}(hc:A1 P f avs O r O)(h:okO O)(hm: ∀p∈O,m p.1=some p.2)
  (ha: ∀a∈avs,∀i∈a.ids,(ofL O i).isSome)(hb:b=true)(hK: @Ri Q b ⟨some r,O⟩): @A4x P m f avs b Q:=by
 rw[<-D1w O]at hK;refine⟨⟨some r,A3n id O⟩,λ_=> ?_,λ_=>hb,hK⟩;have:=T5.mk (P:=P) (m:=m) (avs.map λ_=>true) avs O r O id [] false hc (B1k ha)
  (λi o hi=>by rw[B51];exact hm _ (A05 h.1 hi))
  (λi cs hi j hj=>h.2 _ (A05 h.1 hi) cs rfl j hj) (λi hi=>hi) (λi hi=> .inl hi) (by simpa using h.1) (λe=>by cases e)
 simpa[AV.ren_id]using this
theorem B62(k:Nat)(l:List Int)(f:FuncId)(first cap:List AV)(O:List (Nat×A5))(p:Int->Bool)(hl:l.length<=1000000000)(hO:okO O)(hk:ofL O k=some (.arr 1 (A8 B9 0 l)))
  (hids: ∀i∈(AV.fn (.func f) first cap).ids,(ofL O i).isSome)
  (hp: ∀x∈l,A1 Tryz.prog f (first++ [sI x]++cap) O (sB (p x)) O):
  A1 Tryz.prog B1j [.sl k 0 l.length l.length, .fn (.func f) first cap] O (sI (B1b p l)) O:=by
 have hren:(AV.fn (.func f) first cap).ren id= .fn (.func f) first cap:=AV.ren_id _
 have hargs: ∀x:Int,∀a∈first++ [sI x]++cap,∀i∈a.ids,(ofL O i).isSome:=λx a ha i hi=>by
  simp only[List.mem_append,List.mem_singleton]at ha;refine hids i ?_;simp only[AV.ids,List.mem_append];rcases ha with(ha |rfl) |ha
  ·obtain⟨k,hk⟩:=List.getElem?_of_mem ha;exact .inl (N2 hk i hi)
  ·simp[AV.ids]at hi
  ·obtain⟨k,hk⟩:=List.getElem?_of_mem ha;exact .inr (N2 hk i hi)
 refine H8 hm A4 Tryz.func190 rfl rfl ?_;simp only[go_sem];refine A9 hm (ι:= {i:Nat // i<=l.length/\ ∀j,j<i->p (l.getD j 0)=false}) (λi=> [(0, .share, .sl k 0 l.length l.length),(1, .share, .fn (.func f) first cap),(7, .share,sI l.length),(8, .share,sI i.1)])
  (λi=>O) (λi=>l.length-i.1) ⟨0,by omega,λj hj=>by omega⟩ ?_ ?_
 ·refine V4 hO rfl ?_;simp only[go_sem];exact⟨rfl,(by show(ofL O k).isSome=true;rw[hk];rfl),hren.symm,λi hi=>hids i hi⟩
 ·rintro⟨i,hi,hs⟩;have hk':=hk;simp only[A1x];generalize hmo:ofL O=mo at hk'⊢;simp only[go_sem,hk'];split
  ·rename_i hlt;have hlt:i<l.length:=by omega
   refine⟨ok_,?_⟩;have hx:A1 Tryz.prog f (first++ .sc (.int .i64 (l.getD i 0))::cap) O (sB (p (l.getD i 0))) O:=by have:=hp (l.getD i 0) (B6 0 hlt);rwa[List.append_assoc]at this
   refine V7 hx hO hmo.symm (λa ha=>hargs (l.getD i 0) a (by rw[List.append_assoc];exact ha)) rfl ?_;have hself:wrm mo (A3n id O)=ofL O:=by rw[<-hmo];exact U3 hO
   simp only[go_sem];cases hpx:p (l.getD i 0)with
   |true=>rw[if_pos rfl];refine Q9 [.share] rfl rfl hO hself ?_;simp only[go_sem];exact(D8w hlt hs hpx).symm
   |false=>rw[if_neg (by simp)];refine A7 ⟨i+1,by omega,λj hj=>by rcases Nat.lt_succ_iff_lt_or_eq.1 hj with h |rfl;exact hs j h;exact hpx⟩ (by show l.length-(i+1)<l.length-i;omega) (V4 hO hself ?_);simp only[go_sem];exact⟨rfl,(by show(ofL O k).isSome=true;rw[hk];rfl),hren.symm,λi hi=>hids i hi,(by rw[IntKind.wrap_i64];omega)⟩
  ·rename_i hge;refine Q9 [.share] rfl rfl hO hmo.symm ?_;simp only[go_sem];exact(C0s λj hj=>hs j (by omega)).symm
theorem B4x(k:Nat)(l:List Int)(f:FuncId)(first cap:List AV)(O:List (Nat×A5))(p:Int->Bool)(hl:l.length<=1000000000)(hO:okO O)(hk:ofL O k=some (.arr 1 (A8 B9 0 l)))
  (hids: ∀i∈(AV.fn (.func f) first cap).ids,(ofL O i).isSome)
  (hp: ∀x∈l,A1 Tryz.prog f (first++ [sI x]++cap) O (sB (p x)) O):
  A1 Tryz.prog A9d [.sl k 0 l.length l.length, .fn (.func f) first cap] O (sB (l.any p)) O:=by
 refine H8 hm A4 Tryz.func328 rfl rfl ?_;simp only[go_sem];refine V7 (B62 k l f first cap O p hl hO hk hids hp) hO rfl ?_ rfl ?_
 ·intro a ha;simp only[List.mem_cons,List.not_mem_nil,or_false]at ha;rcases ha with rfl |rfl
  ·intro i hi;simp only[AV.ids,List.mem_singleton]at hi;subst hi;rw[hk];rfl
  ·exact hids
 ·simp only[go_sem];refine Q9 [.share] rfl rfl hO (U3 hO) ?_;simp only[go_sem];exact D4i p l
def inR(x lo hi:Int):Bool:=decide (lo<=x/\x<=hi)
theorem C5c(x lo hi:Int):A1 Tryz.prog F0q [sI x,sI lo,sI hi] [] (sB (inR x lo hi)) []:=by
 refine en1 hm A4 Tryz.func86 rfl rfl ?_;simp only[go_sem];by_cases h:lo<=x
 ·simp only[h,if_true,inR,true_and]
 ·simp only[h,if_false,inR,false_and,decide_false]
theorem B7e(x lo hi:Int):A1 Tryz.prog E2o [sI x,sI lo,sI hi] [] (sB (inR x lo hi)) []:=by
 refine en1 hm A4 Tryz.func358 rfl rfl ?_;simp only[go_sem];by_cases h:lo<=x
 ·simp only[h,if_true,inR,true_and]
 ·simp only[h,if_false,inR,false_and,decide_false]
theorem I8(x lo hi:Int):A1 Tryz.prog D6e [sI x,sI lo,sI hi] [] (sB (inR x lo hi)) []:=by
 refine en1 hm A4 Tryz.func362 rfl rfl ?_;simp only[go_sem];by_cases h:lo<=x
 ·simp only[h,if_true,inR,true_and]
 ·simp only[h,if_false,inR,false_and,decide_false]
theorem C4o(x lo hi:Int):A1 Tryz.prog F5f [sI x,sI lo,sI hi] [] (sB (inR x lo hi)) []:=by
 refine en1 hm A4 Tryz.func41 rfl rfl ?_;simp only[go_sem];by_cases h:lo<=x
 ·simp only[h,if_true,inR,true_and]
 ·simp only[h,if_false,inR,false_and,decide_false]
theorem E5z(x lo hi:Int):A1 Tryz.prog F5m [sI x,sI lo,sI hi] [] (sB (inR x lo hi)) []:=by
 refine en1 hm A4 Tryz.func219 rfl rfl ?_;simp only[go_sem];by_cases h:lo<=x
 ·simp only[h,if_true,inR,true_and]
 ·simp only[h,if_false,inR,false_and,decide_false]
theorem O3(x lo hi:Int):A1 Tryz.prog E1k [sI x,sI lo,sI hi] [] (sB (inR x lo hi)) []:=by
 refine en1 hm A4 Tryz.func135 rfl rfl ?_;simp only[go_sem];by_cases h:lo<=x
 ·simp only[h,if_true,inR,true_and]
 ·simp only[h,if_false,inR,false_and,decide_false]
theorem E5d(x m:Int)(h0:0<=m)(h1:m<9223372036854775807):A1 Tryz.prog E4x [sI x,sI m] [] (sB (inR x (-m) m)) []:=by
 refine en1 hm A4 Tryz.func350 rfl rfl ?_;simp only[go_sem];have e:IntKind.i64.wrap (0-m)= -m:=by rw[IntKind.wrap_i64];omega
 rw[e];by_cases h: -m<=x
 ·simp only[h,if_true,inR,true_and]
 ·simp only[h,if_false,inR,false_and,decide_false]
theorem Q5(a b:Int):A1 Tryz.prog E6q [sI a,sI b] [] (sI (sat (sat a-sat b))) []:=by refine en1 hm A4 Tryz.func300 rfl rfl ?_;simp only[go_sem];refine A0 (J7 a) rfl ?_;simp only[go_sem];refine A0 (J7 b) rfl ?_;simp only[go_sem];refine A0 (J7 _) rfl ?_;simp only[go_sem];have:=S1 a;have:=S1 b;rw[show IntKind.i64.wrap (sat a-sat b)=sat a-sat b by rw[IntKind.wrap_i64];omega]
theorem E07(a b:Int):A1 Tryz.prog F2o [sI a,sI b] [] (sI (sat (sat a-sat b))) []:=by refine en1 hm A4 Tryz.func458 rfl rfl ?_;simp only[go_sem];refine A0 (A7o a) rfl ?_;simp only[go_sem];refine A0 (A7o b) rfl ?_;simp only[go_sem];refine A0 (A7o _) rfl ?_;simp only[go_sem];have:=S1 a;have:=S1 b;rw[show IntKind.i64.wrap (sat a-sat b)=sat a-sat b by rw[IntKind.wrap_i64];omega]
def L9(a b:Vec):Vec:=⟨sat (sat a.X-sat b.X),sat (sat a.Y-sat b.Y)⟩
theorem K2(a b:Vec):A1 Tryz.prog F0x [.agg a.enc, .agg b.enc] [] (.agg (L9 a b).enc) []:=by refine L5 16 [(4,some (some 2))] hm A4 Tryz.func272 rfl ?_;simp only[go_sem];refine A0 (Q5 a.X b.X) rfl ?_;simp only[go_sem];refine A0 (Q5 a.Y b.Y) rfl ?_;simp only[L9,go_sem]
theorem E04(a b:Vec):A1 Tryz.prog F2y [.agg a.enc, .agg b.enc] [] (.agg (L9 a b).enc) []:=by refine L5 16 [(4,some (some 2))] hm A4 Tryz.func351 rfl ?_;simp only[go_sem];refine A0 (E07 a.X b.X) rfl ?_;simp only[go_sem];refine A0 (E07 a.Y b.Y) rfl ?_;simp only[L9,go_sem]
theorem E9m {x y m n:Int}(h1: -m<=x)(h2:x<=m)(h3: -n<=y)(h4:y<=n): -(m*n)<=x*y/\x*y<=m*n:=by
 have hm:0<=m:=by omega
 have hn:0<=n:=by omega
 rcases Int.le_total 0 x with hx |hx <;> rcases Int.le_total 0 y with hy |hy
 ·have a:=Int.mul_le_mul h2 h4 hy hm;have b:=Int.mul_nonneg hx hy;omega
 ·have a:=Int.mul_le_mul h2 (show -y<=n by omega) (by omega) hm;have b:=Int.mul_nonneg hx (show 0<= -y by omega);rw[Int.mul_neg]at a b;omega
 ·have a:=Int.mul_le_mul (show -x<=m by omega) h4 hy hm;have b:=Int.mul_nonneg (show 0<= -x by omega) hy;rw[Int.neg_mul]at a b;omega
 ·have a:=Int.mul_le_mul (show -x<=m by omega) (show -y<=n by omega) (by omega) hm;have b:=Int.mul_nonneg (show 0<= -x by omega) (show 0<= -y by omega);rw[Int.neg_mul_neg]at a b;omega
def crs(a b c:Vec):Int:=(sat b.X-sat a.X)*(sat c.Y-sat a.Y)-(sat b.Y-sat a.Y)*(sat c.X-sat a.X)
def ori(a b c:Vec):Int:=if 0<crs a b c then 1 else if crs a b c<0 then -1 else 0
theorem E5p(a b c:Vec):IntKind.i64.wrap (IntKind.i64.wrap (IntKind.i64.wrap (sat b.X-sat a.X)*IntKind.i64.wrap (sat c.Y-sat a.Y))-IntKind.i64.wrap (IntKind.i64.wrap (sat b.Y-sat a.Y)*IntKind.i64.wrap (sat c.X-sat a.X)))=crs a b c:=by
 have h1:=S1 a.X;have h2:=S1 a.Y;have h3:=S1 b.X;have h4:=S1 b.Y;have h5:=S1 c.X;have h6:=S1 c.Y
 have w: ∀x y,-536870911<=x/\x<=536870911-> -536870911<=y/\y<=536870911->IntKind.i64.wrap (x-y)=x-y:=λx y _ _=>by rw[IntKind.wrap_i64];omega
 rw[w _ _ h3 h1,w _ _ h6 h2,w _ _ h4 h2,w _ _ h5 h1];have p1:=E9m (x:=sat b.X-sat a.X) (y:=sat c.Y-sat a.Y) (m:=1073741822) (n:=1073741822) (by omega) (by omega) (by omega) (by omega)
 have p2:=E9m (x:=sat b.Y-sat a.Y) (y:=sat c.X-sat a.X) (m:=1073741822) (n:=1073741822) (by omega) (by omega) (by omega) (by omega);unfold crs;generalize(sat b.X-sat a.X)*(sat c.Y-sat a.Y)=p at*;generalize(sat b.Y-sat a.Y)*(sat c.X-sat a.X)=q at*;simp only[IntKind.wrap_i64];omega
theorem A2c(a b c:Vec):A1 Tryz.prog C85 [.agg a.enc, .agg b.enc, .agg c.enc] [] (sI (ori a b c)) []:=by
 refine en1 hm A4 Tryz.func274 rfl rfl ?_;simp only[go_sem];refine A0 (A0y a) rfl ?_;simp only[go_sem];refine A0 (A0y b) rfl ?_;simp only[go_sem];refine A0 (A0y c) rfl ?_;simp only[B3t,E5p,go_sem];unfold ori
 (repeat' split) <;> omega
theorem D14(a b c:Vec):A1 Tryz.prog D15 [.agg a.enc, .agg b.enc, .agg c.enc] [] (sI (ori a b c)) []:=by
 refine en1 hm A4 Tryz.func460 rfl rfl ?_;simp only[go_sem];refine A0 (A9n a) rfl ?_;simp only[go_sem];refine A0 (A9n b) rfl ?_;simp only[go_sem];refine A0 (A9n c) rfl ?_;simp only[B3t,E5p,go_sem];unfold ori
 (repeat' split) <;> omega
def A73(v:Vec):Bool:=decide (-1048576<=v.X/\v.X<=1048576/\ -1048576<=v.Y/\v.Y<=1048576)
theorem D2j(v:Vec):A1 Tryz.prog D2l [.agg v.enc] [] (sB (A73 v)) []:=by
 refine en1 hm A4 Tryz.func540 rfl rfl ?_;simp only[go_sem];unfold A73;rw[Bool.eq_iff_iff]
 (repeat' split) <;> simp_all <;> omega
theorem E13(v:Vec):A1 Tryz.prog E2a [.agg v.enc] [] (sB (A73 v)) []:=by
 refine en1 hm A4 Tryz.func459 rfl rfl ?_;simp only[go_sem];unfold A73;rw[Bool.eq_iff_iff]
 (repeat' split) <;> simp_all <;> omega
def A1g(n d:Int):Int:=if d<1\/d>4611686018427387904\/n < -4611686018427387904\/n>4611686018427387904 then 0 else
 if n.tmod d>=d-n.tmod d then n.tdiv d+1 else if -(n.tmod d)>=d+n.tmod d then n.tdiv d-1 else n.tdiv d
theorem E4a {n d:Int}(h1:1<=d)(h2: -4611686018427387904<=n)(h3:n<=4611686018427387904): -4611686018427387904<=n.tdiv d/\n.tdiv d<=4611686018427387904/\ -d<n.tmod d/\n.tmod d<d:=by
 have a:=Int.tmod_lt_of_pos n (show 0<d by omega)
 have b:=Int.lt_tmod_of_pos n (show 0<d by omega)
 have e:=Int.mul_tdiv_add_tmod n d
 have hd:(n.tdiv d).natAbs<=n.natAbs:=by rw[Int.natAbs_tdiv];exact Nat.div_le_self _ _
 omega
theorem P5(n d:Int):A1 Tryz.prog D4r [sI n,sI d] [] (sI (A1g n d)) []:=by
 refine en1 hm A4 Tryz.func415 rfl rfl ?_;simp only[go_sem];unfold A1g;by_cases hc:d<1\/d>4611686018427387904\/n < -4611686018427387904\/n>4611686018427387904
 ·rw[if_pos hc,if_pos (by(repeat' split) <;> simp <;> omega)]
 ·rw[if_neg hc,if_neg (by(repeat' split) <;> simp <;> omega)];obtain⟨h1,h2,h3,h4⟩:=E4a (n:=n) (d:=d) (by omega) (by omega) (by omega);have e1:IntKind.i64.wrap (n.tdiv d)=n.tdiv d:=by rw[IntKind.wrap_i64];omega
  rw[e1];have e2:IntKind.i64.wrap (d-n.tmod d)=d-n.tmod d:=by rw[IntKind.wrap_i64];omega
  have e3:IntKind.i64.wrap (d+n.tmod d)=d+n.tmod d:=by rw[IntKind.wrap_i64];omega
  have e4:IntKind.i64.wrap (0-n.tmod d)= -n.tmod d:=by rw[IntKind.wrap_i64];omega
  rw[e2,e3,e4];refine⟨by omega,by omega,?_⟩;split
  ·rw[IntKind.wrap_i64];omega
  ·split
   ·rw[IntKind.wrap_i64];omega
   ·rfl
theorem F2w {n d:Int}(h1:1<=d)(h2:d<=4611686018427387904)(h3: -4611686018427387904<=n)(h4:n<=4611686018427387904):
  A1g n d=if n.tmod d>=d-n.tmod d then n.tdiv d+1 else if -(n.tmod d)>=d+n.tmod d then n.tdiv d-1 else n.tdiv d:=if_neg (by omega)
theorem F46 {n d q r:Int}(h1:1<=d)(h2:d<=4611686018427387904)(h3: -4611686018427387904<=n)(h4:n<=4611686018427387904)(hq:q=(if n<0 then -n else n).tdiv d)(hr:r=(if n<0 then -n else n).tmod d):
  (if n<0 then -(if r>=d-r then q+1 else q)else(if r>=d-r then q+1 else q))=A1g n d:=by
 rw[F2w h1 h2 h3 h4];by_cases h:n<0
 ·rw[if_pos h]at hq hr⊢;rw[Int.neg_tdiv]at hq;rw[Int.neg_tmod]at hr;have hs:n.tmod d<=0:=by
   have:=Int.tmod_nonneg d (show 0<= -n by omega);rw[Int.neg_tmod]at this;omega
  rw[if_neg (c:=n.tmod d>=d-n.tmod d) (by omega)];subst hq;subst hr;split <;> split <;> omega
 ·rw[if_neg h]at hq hr⊢;have hs:=Int.tmod_nonneg d (show 0<=n by omega);subst hq;subst hr;rw[if_neg (c:= -n.tmod d>=d+n.tmod d) (by omega)]
theorem G2g {m d:Int}:m-m.tdiv d*d=m.tmod d:=by have:=Int.mul_tdiv_add_tmod m d;rw[Int.mul_comm]at this;omega
theorem C2x(n d:Int):A1 Tryz.prog D9n [sI n,sI d] [] (sI (A1g n d)) []:=by
 refine en1 hm A4 Tryz.func462 rfl rfl ?_;simp only[go_sem];refine A0 (B2v d) rfl ?_;simp only[go_sem];refine A0 (B2v n) rfl ?_;simp only[go_sem];by_cases hc:d<1\/d>4611686018427387904\/n < -4611686018427387904\/n>4611686018427387904
 ·rw[if_pos (by(repeat' split) <;> simp <;> omega)];unfold A1g;rw[if_pos hc]
 ·rw[if_neg (by(repeat' split) <;> simp <;> omega)];have hg:=λq r=>F46 (n:=n) (d:=d) (q:=q) (r:=r) (by omega) (by omega) (by omega) (by omega)
  have key: ∀m:Int,0<=m->m<=4611686018427387904->IntKind.i64.wrap (m.tdiv d)=m.tdiv d/\IntKind.i64.wrap (m-IntKind.i64.wrap (m.tdiv d*d))=m.tmod d/\IntKind.i64.wrap (d-m.tmod d)=d-m.tmod d/\IntKind.i64.wrap (m.tdiv d+1)=m.tdiv d+1/\
    IntKind.i64.wrap (0-(m.tdiv d+1))= -(m.tdiv d+1)/\IntKind.i64.wrap (0-m.tdiv d)= -m.tdiv d:=λm h0 h1=>by
   obtain⟨a1,a2,a3,a4⟩:=E4a (n:=m) (d:=d) (by omega) (by omega) (by omega);have e:m-m.tdiv d*d=m.tmod d:=G2g
   have e2:IntKind.i64.wrap (m.tdiv d*d)=m.tdiv d*d:=by have:=Int.tmod_nonneg d h0;generalize m.tdiv d*d=z at*;rw[IntKind.wrap_i64];omega
   rw[e2,e];simp only[IntKind.wrap_i64];refine⟨?_,?_,?_,?_,?_,?_⟩ <;> omega
  by_cases hn:n<0
  ·have hm:IntKind.i64.wrap (0-n)= -n:=by rw[IntKind.wrap_i64];omega
   obtain⟨k1,k2,k3,k4,k5,k6⟩:=key (-n) (by omega) (by omega);have h:=hg _ _ rfl rfl;simp only[hn,if_true]at h⊢;rw[<-h];simp only[hm,k1,k2,k3,k4,k5,k6];refine⟨by omega,?_⟩;split <;> rfl
  ·obtain⟨k1,k2,k3,k4,k5,k6⟩:=key n (by omega) (by omega);have h:=hg _ _ rfl rfl;simp only[hn,if_false]at h⊢;rw[<-h];simp only[k1,k2,k3,k4];refine⟨by omega,?_⟩;split <;> rfl
def C2b(n:Nat)(acc:List Int)(i:Int):List Int:=if(0<=i/\i<n)/\ ¬(acc.any λy=>i==y)=true then acc++ [i]else acc
def A99(l:List Int)(n:Nat):List Int:=l.foldl (C2b n) []
theorem E06 {l:List Int}{n k:Nat}(h:k<l.length):A99 (l.take (k+1)) n=C2b n (A99 (l.take k) n) (l.getD k 0):=by rw[K9 0 h];simp[A99]
theorem F65(n:Nat)(acc:List Int)(i:Int):(C2b n acc i).length<=acc.length+1:=by unfold C2b;split <;> simp
theorem C4c(l:List Int)(n:Nat):(A99 l n).length<=l.length:=by
 have: ∀(l acc:List Int),(l.foldl (C2b n) acc).length<=acc.length+l.length:=by
  intro l;induction l with
  |nil=>intro acc;simp
  |cons a l ih=>intro acc;have:=ih (C2b n acc a);have:=F65 n acc a;simp only[List.foldl_cons,List.length_cons];omega
 simpa[A99]using this l []
theorem F63 {l:List Int}{n:Nat}{i:Int}:i∈A99 l n↔i∈l/\0<=i/\i<n:=by
 have: ∀(l acc:List Int),i∈l.foldl (C2b n) acc↔i∈acc\/(i∈l/\0<=i/\i<n):=by
  intro l;induction l with
  |nil=>intro acc;simp
  |cons a l ih=>
   intro acc;rw[List.foldl_cons,ih];unfold C2b;split
   ·rename_i h;simp only[List.mem_append,List.mem_cons,List.not_mem_nil,or_false];constructor
    ·rintro((h1 |rfl) |h1)
     ·exact .inl h1
     ·exact .inr ⟨.inl rfl,h.1⟩
     ·exact .inr ⟨.inr h1.1,h1.2⟩
    ·rintro(h1 |⟨rfl |h1,h2⟩)
     ·exact .inl (.inl h1)
     ·exact .inl (.inr rfl)
     ·exact .inr ⟨h1,h2⟩
   ·rename_i h;simp only[List.mem_cons];constructor
    ·rintro(h1 |h1)
     ·exact .inl h1
     ·exact .inr ⟨.inr h1.1,h1.2⟩
    ·rintro(h1 |⟨rfl |h1,h2⟩)
     ·exact .inl h1
     ·left;have:(acc.any λy=>i==y)=true:=Classical.byContradiction λhh=>h ⟨h2,hh⟩;rw[List.any_eq_true]at this;obtain⟨y,hy,e⟩:=this;rw[beq_iff_eq]at e;rwa[e]
     ·exact .inr ⟨h1,h2⟩
 simpa[A99]using this l []
def E35(w:Api.World)(x:B0)(n:Nat):List AV:= [sI w.Settings.TimeStep,sI w.Settings.Gravity.X,sI w.Settings.Gravity.Y,sI w.Settings.Iterations,sI w.Settings.SleepSteps,
 .sl 1 0 w.Bodies.length w.Bodies.length, .sl 2 0 w.Joints.length w.Joints.length, .sl 3 0 w.Contacts.length w.Contacts.length, .sl 4 0 w.Overlaps.length w.Overlaps.length,sI w.NextID,sI w.Frame,
 A2 1 B9 0 x.Bodies,A2 1 B9 0 x.Contacts,A2 1 B9 0 x.Joints, .sl 5 0 n n]
def A5t(w:Api.World)(x:B0)(l:List Int):List (Nat×A5):=(6, .box (E35 w x l.length))::(5, .arr 1 (A8 B9 0 l))::B2h w 1 2 3 4
attribute [go_sem] E35 A5t
def Ism(x:B0):Prop:=x.Bodies.length<=1048576/\x.Contacts.length<=1048576/\x.Joints.length<=1048576
theorem B2f(w:Api.World)(x:B0)(hw:Wsm w)(hx:Ism x):A1 Tryz.prog D4t [.agg w.enc, .agg x.enc] [] (.ptr 6 0 0 1) (A5t w x (A99 x.Bodies w.Bodies.length)):=by
 have hx1:=hx.1;refine H8 hm A4 Tryz.func161 rfl rfl ?_;simp only[go_sem];refine E3 [true] [] (A51 w hw) (by simp) (by simp[go_sem]) (by simp[go_sem]) (by simp) ?_;simp only[go_sem];refine A9 hm (ι:= {i:Nat // i<=x.Bodies.length}) (λi=> [(2, .share, .ptr 48 0 0 1),(3, .share, .ptr 64 0 0 1),(5, .share, .ptr 6 0 0 1),(14, .share,A2 1 B9 0 x.Bodies),(15, .share,sI x.Bodies.length),(16, .share,sI i.1)])
  (λi=>(48, .box w.enc)::(64, .box x.enc)::A5t w x (A99 (x.Bodies.take i.1) w.Bodies.length)) (λi=>x.Bodies.length-i.1) ⟨0,by omega⟩ ?_ ?_
 ·refine D6 [(6,208)] [5] ?_;simp only[go_sem];rfl
 ·rintro⟨i,hi⟩;have hn:=C4c (x.Bodies.take i) w.Bodies.length
  have hn:(A99 (x.Bodies.take i) w.Bodies.length).length<=1048576:=by have:=hx.1;simp at hn;omega
  simp only[go_sem];split
  ·rename_i hlt;have hlt:i<x.Bodies.length:=by omega
   refine⟨ok_,?_⟩;refine A5d (C2s (A99 (x.Bodies.take i) w.Bodies.length) (x.Bodies.getD i 0) hn) rfl (by simp only[A02,go_sem]) ?_;simp only[go_sem];by_cases hc:(0<=x.Bodies.getD i 0/\x.Bodies.getD i 0<(w.Bodies.length:Int))/\ ¬((A99 (x.Bodies.take i) w.Bodies.length).any λy=>x.Bodies.getD i 0==y)=true
   ·have he:A99 (x.Bodies.take (i+1)) w.Bodies.length=A99 (x.Bodies.take i) w.Bodies.length++ [x.Bodies.getD i 0]:=by
     rw[E06 hlt];unfold C2b;rw[if_pos hc]
    rw[if_pos (by obtain⟨⟨c1,c2⟩,c3⟩:=hc;rw[if_pos c1,decide_eq_true c2,Bool.eq_false_iff.2 c3];rfl)];refine⟨ok_,?_⟩;refine A7 ⟨i+1,by omega⟩ (by show x.Bodies.length-(i+1)<x.Bodies.length-i;omega) (D6 [] [] ?_);simp only[go_sem,he,List.length_append,List.length_singleton];exact⟨(by rw[IntKind.wrap_i64];omega),A1y (x.Bodies.getD i 0) rfl rfl⟩
   ·have he:A99 (x.Bodies.take (i+1)) w.Bodies.length=A99 (x.Bodies.take i) w.Bodies.length:=by
     rw[E06 hlt];unfold C2b;rw[if_neg hc]
    rw[if_neg (by
     intro h;apply hc;rw[Bool.and_eq_true,Bool.not_eq_true']at h;obtain⟨h1,h2⟩:=h;by_cases c1:0<=x.Bodies.getD i 0
     ·rw[if_pos c1]at h1;exact⟨⟨c1,of_decide_eq_true h1⟩,Bool.eq_false_iff.1 h2⟩
     ·rw[if_neg c1]at h1;cases h1)]
    refine A7 ⟨i+1,by omega⟩ (by show x.Bodies.length-(i+1)<x.Bodies.length-i;omega) (D6 [] [] ?_);simp only[go_sem,he];exact(by rw[IntKind.wrap_i64];omega)
  ·rename_i hge;obtain rfl:i=x.Bodies.length:=by omega
   refine C6 [.share] [] [] rfl rfl (by simp[go_sem]) (by simp[A6,go_sem]) (by simp[go_sem]) ?_;simp only[go_sem,List.take_length]
theorem A9o(w:Api.World)(x:B0)(l:List Int):okO (A5t w x l):=by refine⟨by simp[go_sem],?_⟩;simp[go_sem,F4,AV.ids]
def B37(w:Api.World)(i:Int):Body:=w.Bodies.getD i.toNat default
theorem C6b(w:Api.World)(x:B0)(l:List Int)(b:Body):A1 Tryz.prog B32 [.ptr 6 0 0 1, .agg b.enc] (A5t w x l) (sB (!b.Asleep)) (A5t w x l):=by refine H8 hm A4 Tryz.func260 rfl rfl ?_;simp only[go_sem];refine C6 [.share] [] [] rfl rfl (by simp[go_sem]) (by simp[A6,go_sem]) (by simp[go_sem]) ?_;simp only[go_sem]
theorem C2l(w:Api.World)(x:B0)(l:List Int)(b:Body):A1 Tryz.prog B1d [.ptr 6 0 0 1, .agg b.enc] (A5t w x l) (sB (decide (b.IdleSteps<w.Settings.SleepSteps))) (A5t w x l):=by refine H8 hm A4 Tryz.func200 rfl rfl ?_;simp only[go_sem];refine C6 [.share] [] [] rfl rfl (by simp[go_sem]) (by simp[A6,go_sem]) (by simp[go_sem]) ?_;simp only[go_sem]
def D33(b:Body):Bool:=(b.Kind==2)&&(!(b.Velocity.X==0&&b.Velocity.Y==0)||b.AngularVelocity != 0)
theorem C6d(w:Api.World)(x:B0)(l:List Int)(b:Body):A1 Tryz.prog C5s [.ptr 6 0 0 1, .agg b.enc] (A5t w x l) (sB (D33 b)) (A5t w x l):=by
 refine H8 hm A4 Tryz.func331 rfl rfl ?_;simp only[go_sem];cases hk:b.Kind==2 with
 |true=>simp only[go_sem];refine C6 [.share] [] [] rfl rfl (by simp[go_sem]) (by simp[A6,go_sem]) (by simp[go_sem]) ?_;simp only[go_sem];simp only[D33,hk,Bool.true_and]
 |false=>simp only[go_sem];refine C6 [.share] [] [] rfl rfl (by simp[go_sem]) (by simp[A6,go_sem]) (by simp[go_sem]) ?_;simp only[go_sem];simp only[D33,hk,Bool.false_and]
def E5x(w:Api.World)(x:B0)(l:List Int)(f:FuncId):List (Nat×A5):=(48, .box [.ptr 6 0 0 1])::(64, .box [.fn (.func f) [.ptr 6 0 0 1] []])::A5t w x l
attribute [go_sem] E5x
theorem E4r(w:Api.World)(x:B0)(l:List Int)(f:FuncId):okO (E5x w x l f):=by refine⟨by simp[go_sem],?_⟩;simp[go_sem,F4,AV.ids]
theorem C5e(w:Api.World)(x:B0)(l:List Int)(f:FuncId)(p:Body->Bool)(hp: ∀b:Body,A1 Tryz.prog f [.ptr 6 0 0 1, .agg b.enc] (A5t w x l) (sB (p b)) (A5t w x l))
  (i:Int)(h0:0<=i)(h1:i<w.Bodies.length):A1 Tryz.prog B3p [sI i, .ptr 64 0 0 1, .ptr 48 0 0 1] (E5x w x l f) (sB (p (B37 w i))) (E5x w x l f):=by
 refine H8 hm A4 Tryz.func329 rfl rfl ?_;simp only[go_sem];refine⟨⟨h0,h1⟩,?_⟩;refine A1h (hp (B37 w i)) (A9o w x l) (by simp[go_sem]) (by simp[go_sem,AV.ids]) rfl ?_;simp only[go_sem];refine C6 [.share] [] [] rfl rfl (by simp[go_sem]) (by simp[A6,go_sem]) (by simp[go_sem]) ?_;simp only[go_sem]
theorem B7s(w:Api.World)(x:B0)(l:List Int)(f:FuncId)(p:Body->Bool)(hp: ∀b:Body,A1 Tryz.prog f [.ptr 6 0 0 1, .agg b.enc] (A5t w x l) (sB (p b)) (A5t w x l))
  (hl:l.length<=1048576)(hi: ∀i∈l,0<=i/\i<w.Bodies.length):A1 Tryz.prog D13 [.ptr 6 0 0 1, .fn (.func f) [.ptr 6 0 0 1] []] (A5t w x l) (sB (l.any λi=>p (B37 w i))) (A5t w x l):=by
 refine H8 hm A4 Tryz.func199 rfl rfl ?_;simp only[go_sem];refine A1h (B4x 5 l B3p [] [.ptr 64 0 0 1, .ptr 48 0 0 1] (E5x w x l f) (λi=>p (B37 w i)) (by omega) (E4r w x l f) (by simp[go_sem]) (by simp[go_sem,AV.ids]) (λi hm=>C5e w x l f p hp i (hi i hm).1 (hi i hm).2)) (E4r w x l f) (by simp[go_sem]) (by simp[go_sem,AV.ids]) rfl ?_;simp only[go_sem];refine C6 [.share] [] [] rfl rfl (by simp[go_sem]) (by simp[A6,go_sem]) (by simp[go_sem]) ?_;simp only[go_sem]
def A41 {α:Type}(d:α)(p:α->Bool)(l:List α):Int:=match(List.range l.length).find? (λi=>p (l.getD i d))with |some i=>i |none=> -1
theorem A82 {α:Type}{d:α}{p:α->Bool}{l:List α}{i:Nat}(hi:i<l.length)(h: ∀j,j<i->p (l.getD j d)=false)(hp:p (l.getD i d)=true):A41 d p l=i:=by
 have:(List.range l.length).find? (λi=>p (l.getD i d))=some i:=by rw[List.find?_range_eq_some];exact⟨hp,by simpa using hi,λj hj=>by simp only[h j hj,Bool.not_false]⟩
 unfold A41;rw[this]
theorem A4b {α:Type}{d:α}{p:α->Bool}{l:List α}(h: ∀j,j<l.length->p (l.getD j d)=false):A41 d p l= -1:=by
 have:(List.range l.length).find? (λi=>p (l.getD i d))=none:=by rw[List.find?_range_eq_none];exact λj hj=>by simp only[h j hj,Bool.not_false]
 unfold A41;rw[this]
theorem E8d {α:Type}{d:α}{p:α->Bool}{l:List α}: -1<=A41 d p l/\(A41 d p l)<l.length:=by
 unfold A41;cases hf:(List.range l.length).find? (λi=>p (l.getD i d))with
 |none=>simp;omega
 |some i=>have:=List.mem_of_find?_eq_some hf;rw[List.mem_range]at this;simp;omega
theorem B91(l:List Body)(f:FuncId)(first cap:List AV)(O:List (Nat×A5))(p:Body->Bool)(hl:l.length<=1048576)(hO:okO O)
  (hids: ∀i∈(AV.fn (.func f) first cap).ids,(ofL O i).isSome)
  (hp: ∀x∈l,A1 Tryz.prog f (first++ [.agg x.enc]++cap) O (sB (p x)) O):
  A1 Tryz.prog C0c [A2 20 Body.enc default l, .fn (.func f) first cap] O (sI (A41 default p l)) O:=by
 have hren:(AV.fn (.func f) first cap).ren id= .fn (.func f) first cap:=AV.ren_id _
 have hargs: ∀x:Body,∀a∈first++ [.agg x.enc]++cap,∀i∈a.ids,(ofL O i).isSome:=λx a ha i hi=>by
  simp only[List.mem_append,List.mem_singleton]at ha;refine hids i ?_;simp only[AV.ids,List.mem_append];rcases ha with(ha |rfl) |ha
  ·obtain⟨k,hk⟩:=List.getElem?_of_mem ha;exact .inl (N2 hk i hi)
  ·simp[AV.ids,go_sem]at hi
  ·obtain⟨k,hk⟩:=List.getElem?_of_mem ha;exact .inr (N2 hk i hi)
 refine H8 hm A4 Tryz.func232 rfl rfl ?_;simp only[go_sem];refine A9 hm (ι:= {i:Nat // i<=l.length/\ ∀j,j<i->p (l.getD j default)=false}) (λi=> [(0, .share,A2 20 Body.enc default l),(1, .share, .fn (.func f) first cap),(7, .share,sI l.length),(8, .share,sI i.1)])
  (λi=>O) (λi=>l.length-i.1) ⟨0,by omega,λj hj=>by omega⟩ ?_ ?_
 ·refine V4 hO rfl ?_;simp only[go_sem];exact⟨by rw[M9,M9],λi hi=>hids i hi⟩
 ·rintro⟨i,hi,hs⟩;simp only[go_sem];split
  ·rename_i hlt;have hlt:i<l.length:=by omega
   refine⟨ok_,?_⟩;have hx:A1 Tryz.prog f (first++ .agg (l.getD i default).enc::cap) O (sB (p (l.getD i default))) O:=by have:=hp (l.getD i default) (B6 default hlt);rwa[List.append_assoc]at this
   refine V7 hx hO rfl (λa ha=>hargs (l.getD i default) a (by rw[List.append_assoc];exact ha)) rfl ?_;simp only[go_sem];cases hpx:p (l.getD i default)with
   |true=>rw[if_pos rfl];refine Q9 [.share] rfl rfl hO (U3 hO) ?_;simp only[go_sem];exact(A82 hlt hs hpx).symm
   |false=>rw[if_neg (by simp)];refine A7 ⟨i+1,by omega,λj hj=>by rcases Nat.lt_succ_iff_lt_or_eq.1 hj with h |rfl;exact hs j h;exact hpx⟩ (by show l.length-(i+1)<l.length-i;omega) (V4 hO (U3 hO) ?_);simp only[go_sem];exact⟨by rw[M9,M9],λi hi=>hids i hi,(by rw[IntKind.wrap_i64];omega)⟩
  ·rename_i hge;refine Q9 [.share] rfl rfl hO rfl ?_;simp only[go_sem];exact(A4b λj hj=>hs j (by omega)).symm
def H6(w:Api.World)(id:Int):Int:=A41 default (λb:Body=>b.ID==id) w.Bodies
theorem G00(id:Int):okO [(1, .box [sI id])]:=by refine⟨by simp[go_sem],?_⟩;simp[go_sem,F4,AV.ids]
theorem C67(id:Int)(b:Body):A1 Tryz.prog B43 [.agg b.enc, .ptr 1 0 0 1] [(1, .box [sI id])] (sB (b.ID==id)) [(1, .box [sI id])]:=by refine H8 hm A4 Tryz.func233 rfl rfl ?_;simp only[go_sem];refine C6 [.share] [] [] rfl rfl (by simp[go_sem]) (by simp[A6,go_sem]) (by simp[go_sem]) ?_;simp only[go_sem]
theorem A16(w:Api.World)(id:Int)(hw:w.Bodies.length<=1048576):A1 Tryz.prog D5m [.agg w.enc,sI id] [] (sI (H6 w id)) []:=by refine H8 hm A4 Tryz.func143 rfl rfl ?_;simp only[go_sem];refine E3 [true,true] [(1,64)] (B91 w.Bodies B43 [] [.ptr 1 0 0 1] [(1, .box [sI id])] (λb=>b.ID==id) hw (G00 id) (by simp[go_sem,AV.ids]) (λb _=>C67 id b)) (by simp) (by simp) (by simp) (by simp[go_sem]) ?_;simp only[go_sem];refine C6 [.share] [] [] rfl rfl (by simp[go_sem]) (by simp[A6,go_sem]) (by simp[go_sem]) ?_;simp only[go_sem];rfl
attribute [go_sem] Option.toList_none Option.toList_some
theorem B9n {α:Type}{d:α}(p:α->Bool)(l:List α):decide (0<=A41 d p l)=l.any p:=by
 cases h:l.any p with
 |true=>
  rw[List.any_eq_true]at h;obtain⟨x,hx,hp⟩:=h;obtain⟨k,hk,rfl⟩:=List.getElem_of_mem hx;unfold A41;cases hf:(List.range l.length).find? (λi=>p (l.getD i d))with
  |none=>rw[List.find?_range_eq_none]at hf;have:=hf k hk;simp[List.getD,hk,hp]at this
  |some i=>simp
 |false=>rw[List.any_eq_false]at h;rw[A4b λj hj=>by simpa using h _ (B6 d hj)];decide
theorem C2j(l:List Vec)(f:FuncId)(first cap:List AV)(O:List (Nat×A5))(p:Vec->Bool)(hl:l.length<=4194304)(hO:okO O)
  (hids: ∀i∈(AV.fn (.func f) first cap).ids,(ofL O i).isSome)
  (hp: ∀x∈l,A1 Tryz.prog f (first++ [.agg x.enc]++cap) O (sB (p x)) O):
  A1 Tryz.prog C1k [A2 2 Vec.enc default l, .fn (.func f) first cap] O (sI (A41 default p l)) O:=by
 have hren:(AV.fn (.func f) first cap).ren id= .fn (.func f) first cap:=AV.ren_id _
 have hargs: ∀x:Vec,∀a∈first++ [.agg x.enc]++cap,∀i∈a.ids,(ofL O i).isSome:=λx a ha i hi=>by
  simp only[List.mem_append,List.mem_singleton]at ha;refine hids i ?_;simp only[AV.ids,List.mem_append];rcases ha with(ha |rfl) |ha
  ·obtain⟨k,hk⟩:=List.getElem?_of_mem ha;exact .inl (N2 hk i hi)
  ·simp[AV.ids,go_sem]at hi
  ·obtain⟨k,hk⟩:=List.getElem?_of_mem ha;exact .inr (N2 hk i hi)
 refine H8 hm A4 Tryz.func481 rfl rfl ?_;simp only[go_sem];refine A9 hm (ι:= {i:Nat // i<=l.length/\ ∀j,j<i->p (l.getD j default)=false}) (λi=> [(0, .share,A2 2 Vec.enc default l),(1, .share, .fn (.func f) first cap),(7, .share,sI l.length),(8, .share,sI i.1)])
  (λi=>O) (λi=>l.length-i.1) ⟨0,by omega,λj hj=>by omega⟩ ?_ ?_
 ·refine V4 hO rfl ?_;simp only[go_sem];exact⟨by rw[M9,M9],λi hi=>hids i hi⟩
 ·rintro⟨i,hi,hs⟩;simp only[go_sem];split
  ·rename_i hlt;have hlt:i<l.length:=by omega
   refine⟨ok_,?_⟩;have hx:A1 Tryz.prog f (first++ .agg (l.getD i default).enc::cap) O (sB (p (l.getD i default))) O:=by have:=hp (l.getD i default) (B6 default hlt);rwa[List.append_assoc]at this
   refine V7 hx hO rfl (λa ha=>hargs (l.getD i default) a (by rw[List.append_assoc];exact ha)) rfl ?_;simp only[go_sem];cases hpx:p (l.getD i default)with
   |true=>rw[if_pos rfl];refine Q9 [.share] rfl rfl hO (U3 hO) ?_;simp only[go_sem];exact(A82 hlt hs hpx).symm
   |false=>rw[if_neg (by simp)];refine A7 ⟨i+1,by omega,λj hj=>by rcases Nat.lt_succ_iff_lt_or_eq.1 hj with h |rfl;exact hs j h;exact hpx⟩ (by show l.length-(i+1)<l.length-i;omega) (V4 hO (U3 hO) ?_);simp only[go_sem];exact⟨by rw[M9,M9],λi hi=>hids i hi,(by rw[IntKind.wrap_i64];omega)⟩
  ·rename_i hge;refine Q9 [.share] rfl rfl hO rfl ?_;simp only[go_sem];exact(A4b λj hj=>hs j (by omega)).symm
theorem B8e(l:List Vec)(f:FuncId)(first cap:List AV)(O:List (Nat×A5))(p:Vec->Bool)(hl:l.length<=4194304)(hO:okO O)
  (hids: ∀i∈(AV.fn (.func f) first cap).ids,(ofL O i).isSome)
  (hp: ∀x∈l,A1 Tryz.prog f (first++ [.agg x.enc]++cap) O (sB (p x)) O):
  A1 Tryz.prog B8a [A2 2 Vec.enc default l, .fn (.func f) first cap] O (sB (l.any p)) O:=by
 refine H8 hm A4 Tryz.func377 rfl rfl ?_;simp only[go_sem];refine V7 (C2j l f first cap O p hl hO hids hp) hO rfl ?_ rfl ?_
 ·intro a ha;simp only[List.mem_cons,List.not_mem_nil,or_false]at ha;rcases ha with rfl |rfl
  ·intro i hi;simp[AV.ids]at hi
  ·exact hids
 ·simp only[go_sem];refine Q9 [.share] rfl rfl hO (U3 hO) ?_;simp only[go_sem];exact B9n p l
theorem A5r(l:List ContactPoint)(f:FuncId)(first cap:List AV)(O:List (Nat×A5))(p:ContactPoint->Bool)(hl:l.length<=4194304)(hO:okO O)
  (hids: ∀i∈(AV.fn (.func f) first cap).ids,(ofL O i).isSome)
  (hp: ∀x∈l,A1 Tryz.prog f (first++ [.agg x.enc]++cap) O (sB (p x)) O):
  A1 Tryz.prog B3i [A2 6 ContactPoint.enc default l, .fn (.func f) first cap] O (sI (A41 default p l)) O:=by
 have hren:(AV.fn (.func f) first cap).ren id= .fn (.func f) first cap:=AV.ren_id _
 have hargs: ∀x:ContactPoint,∀a∈first++ [.agg x.enc]++cap,∀i∈a.ids,(ofL O i).isSome:=λx a ha i hi=>by
  simp only[List.mem_append,List.mem_singleton]at ha;refine hids i ?_;simp only[AV.ids,List.mem_append];rcases ha with(ha |rfl) |ha
  ·obtain⟨k,hk⟩:=List.getElem?_of_mem ha;exact .inl (N2 hk i hi)
  ·simp[AV.ids,go_sem]at hi
  ·obtain⟨k,hk⟩:=List.getElem?_of_mem ha;exact .inr (N2 hk i hi)
 refine H8 hm A4 Tryz.func255 rfl rfl ?_;simp only[go_sem];refine A9 hm (ι:= {i:Nat // i<=l.length/\ ∀j,j<i->p (l.getD j default)=false}) (λi=> [(0, .share,A2 6 ContactPoint.enc default l),(1, .share, .fn (.func f) first cap),(7, .share,sI l.length),(8, .share,sI i.1)])
  (λi=>O) (λi=>l.length-i.1) ⟨0,by omega,λj hj=>by omega⟩ ?_ ?_
 ·refine V4 hO rfl ?_;simp only[go_sem];exact⟨by rw[M9,M9],λi hi=>hids i hi⟩
 ·rintro⟨i,hi,hs⟩;simp only[go_sem];split
  ·rename_i hlt;have hlt:i<l.length:=by omega
   refine⟨ok_,?_⟩;have hx:A1 Tryz.prog f (first++ .agg (l.getD i default).enc::cap) O (sB (p (l.getD i default))) O:=by have:=hp (l.getD i default) (B6 default hlt);rwa[List.append_assoc]at this
   refine V7 hx hO rfl (λa ha=>hargs (l.getD i default) a (by rw[List.append_assoc];exact ha)) rfl ?_;simp only[go_sem];cases hpx:p (l.getD i default)with
   |true=>rw[if_pos rfl];refine Q9 [.share] rfl rfl hO (U3 hO) ?_;simp only[go_sem];exact(A82 hlt hs hpx).symm
   |false=>rw[if_neg (by simp)];refine A7 ⟨i+1,by omega,λj hj=>by rcases Nat.lt_succ_iff_lt_or_eq.1 hj with h |rfl;exact hs j h;exact hpx⟩ (by show l.length-(i+1)<l.length-i;omega) (V4 hO (U3 hO) ?_);simp only[go_sem];exact⟨by rw[M9,M9],λi hi=>hids i hi,(by rw[IntKind.wrap_i64];omega)⟩
  ·rename_i hge;refine Q9 [.share] rfl rfl hO rfl ?_;simp only[go_sem];exact(A4b λj hj=>hs j (by omega)).symm
theorem B04(l:List ContactPoint)(f:FuncId)(first cap:List AV)(O:List (Nat×A5))(p:ContactPoint->Bool)(hl:l.length<=4194304)(hO:okO O)
  (hids: ∀i∈(AV.fn (.func f) first cap).ids,(ofL O i).isSome)
  (hp: ∀x∈l,A1 Tryz.prog f (first++ [.agg x.enc]++cap) O (sB (p x)) O):
  A1 Tryz.prog B1c [A2 6 ContactPoint.enc default l, .fn (.func f) first cap] O (sB (l.any p)) O:=by
 refine H8 hm A4 Tryz.func235 rfl rfl ?_;simp only[go_sem];refine V7 (A5r l f first cap O p hl hO hids hp) hO rfl ?_ rfl ?_
 ·intro a ha;simp only[List.mem_cons,List.not_mem_nil,or_false]at ha;rcases ha with rfl |rfl
  ·intro i hi;simp[AV.ids]at hi
  ·exact hids
 ·simp only[go_sem];refine Q9 [.share] rfl rfl hO (U3 hO) ?_;simp only[go_sem];exact B9n p l
theorem B66(l:List PairKey)(f:FuncId)(first cap:List AV)(O:List (Nat×A5))(p:PairKey->Bool)(hl:l.length<=4194304)(hO:okO O)
  (hids: ∀i∈(AV.fn (.func f) first cap).ids,(ofL O i).isSome)
  (hp: ∀x∈l,A1 Tryz.prog f (first++ [.agg x.enc]++cap) O (sB (p x)) O):
  A1 Tryz.prog B64 [A2 4 PairKey.enc default l, .fn (.func f) first cap] O (sI (A41 default p l)) O:=by
 have hren:(AV.fn (.func f) first cap).ren id= .fn (.func f) first cap:=AV.ren_id _
 have hargs: ∀x:PairKey,∀a∈first++ [.agg x.enc]++cap,∀i∈a.ids,(ofL O i).isSome:=λx a ha i hi=>by
  simp only[List.mem_append,List.mem_singleton]at ha;refine hids i ?_;simp only[AV.ids,List.mem_append];rcases ha with(ha |rfl) |ha
  ·obtain⟨k,hk⟩:=List.getElem?_of_mem ha;exact .inl (N2 hk i hi)
  ·simp[AV.ids,go_sem]at hi
  ·obtain⟨k,hk⟩:=List.getElem?_of_mem ha;exact .inr (N2 hk i hi)
 refine H8 hm A4 Tryz.func239 rfl rfl ?_;simp only[go_sem];refine A9 hm (ι:= {i:Nat // i<=l.length/\ ∀j,j<i->p (l.getD j default)=false}) (λi=> [(0, .share,A2 4 PairKey.enc default l),(1, .share, .fn (.func f) first cap),(7, .share,sI l.length),(8, .share,sI i.1)])
  (λi=>O) (λi=>l.length-i.1) ⟨0,by omega,λj hj=>by omega⟩ ?_ ?_
 ·refine V4 hO rfl ?_;simp only[go_sem];exact⟨by rw[M9,M9],λi hi=>hids i hi⟩
 ·rintro⟨i,hi,hs⟩;simp only[go_sem];split
  ·rename_i hlt;have hlt:i<l.length:=by omega
   refine⟨ok_,?_⟩;have hx:A1 Tryz.prog f (first++ .agg (l.getD i default).enc::cap) O (sB (p (l.getD i default))) O:=by have:=hp (l.getD i default) (B6 default hlt);rwa[List.append_assoc]at this
   refine V7 hx hO rfl (λa ha=>hargs (l.getD i default) a (by rw[List.append_assoc];exact ha)) rfl ?_;simp only[go_sem];cases hpx:p (l.getD i default)with
   |true=>rw[if_pos rfl];refine Q9 [.share] rfl rfl hO (U3 hO) ?_;simp only[go_sem];exact(A82 hlt hs hpx).symm
   |false=>rw[if_neg (by simp)];refine A7 ⟨i+1,by omega,λj hj=>by rcases Nat.lt_succ_iff_lt_or_eq.1 hj with h |rfl;exact hs j h;exact hpx⟩ (by show l.length-(i+1)<l.length-i;omega) (V4 hO (U3 hO) ?_);simp only[go_sem];exact⟨by rw[M9,M9],λi hi=>hids i hi,(by rw[IntKind.wrap_i64];omega)⟩
  ·rename_i hge;refine Q9 [.share] rfl rfl hO rfl ?_;simp only[go_sem];exact(A4b λj hj=>hs j (by omega)).symm
theorem B4w(l:List PairKey)(f:FuncId)(first cap:List AV)(O:List (Nat×A5))(p:PairKey->Bool)(hl:l.length<=4194304)(hO:okO O)
  (hids: ∀i∈(AV.fn (.func f) first cap).ids,(ofL O i).isSome)
  (hp: ∀x∈l,A1 Tryz.prog f (first++ [.agg x.enc]++cap) O (sB (p x)) O):
  A1 Tryz.prog B4u [A2 4 PairKey.enc default l, .fn (.func f) first cap] O (sB (l.any p)) O:=by
 refine H8 hm A4 Tryz.func146 rfl rfl ?_;simp only[go_sem];refine V7 (B66 l f first cap O p hl hO hids hp) hO rfl ?_ rfl ?_
 ·intro a ha;simp only[List.mem_cons,List.not_mem_nil,or_false]at ha;rcases ha with rfl |rfl
  ·intro i hi;simp[AV.ids]at hi
  ·exact hids
 ·simp only[go_sem];refine Q9 [.share] rfl rfl hO (U3 hO) ?_;simp only[go_sem];exact B9n p l
theorem B9k(l:List Joint)(f:FuncId)(first cap:List AV)(O:List (Nat×A5))(p:Joint->Bool)(hl:l.length<=4194304)(hO:okO O)
  (hids: ∀i∈(AV.fn (.func f) first cap).ids,(ofL O i).isSome)
  (hp: ∀x∈l,A1 Tryz.prog f (first++ [.agg x.enc]++cap) O (sB (p x)) O):
  A1 Tryz.prog A95 [A2 24 Joint.enc default l, .fn (.func f) first cap] O (sI (A41 default p l)) O:=by
 have hren:(AV.fn (.func f) first cap).ren id= .fn (.func f) first cap:=AV.ren_id _
 have hargs: ∀x:Joint,∀a∈first++ [.agg x.enc]++cap,∀i∈a.ids,(ofL O i).isSome:=λx a ha i hi=>by
  simp only[List.mem_append,List.mem_singleton]at ha;refine hids i ?_;simp only[AV.ids,List.mem_append];rcases ha with(ha |rfl) |ha
  ·obtain⟨k,hk⟩:=List.getElem?_of_mem ha;exact .inl (N2 hk i hi)
  ·simp[AV.ids,go_sem]at hi
  ·obtain⟨k,hk⟩:=List.getElem?_of_mem ha;exact .inr (N2 hk i hi)
 refine H8 hm A4 Tryz.func333 rfl rfl ?_;simp only[go_sem];refine A9 hm (ι:= {i:Nat // i<=l.length/\ ∀j,j<i->p (l.getD j default)=false}) (λi=> [(0, .share,A2 24 Joint.enc default l),(1, .share, .fn (.func f) first cap),(7, .share,sI l.length),(8, .share,sI i.1)])
  (λi=>O) (λi=>l.length-i.1) ⟨0,by omega,λj hj=>by omega⟩ ?_ ?_
 ·refine V4 hO rfl ?_;simp only[go_sem];exact⟨by rw[M9,M9],λi hi=>hids i hi⟩
 ·rintro⟨i,hi,hs⟩;simp only[go_sem];split
  ·rename_i hlt;have hlt:i<l.length:=by omega
   refine⟨ok_,?_⟩;have hx:A1 Tryz.prog f (first++ .agg (l.getD i default).enc::cap) O (sB (p (l.getD i default))) O:=by have:=hp (l.getD i default) (B6 default hlt);rwa[List.append_assoc]at this
   refine V7 hx hO rfl (λa ha=>hargs (l.getD i default) a (by rw[List.append_assoc];exact ha)) rfl ?_;simp only[go_sem];cases hpx:p (l.getD i default)with
   |true=>rw[if_pos rfl];refine Q9 [.share] rfl rfl hO (U3 hO) ?_;simp only[go_sem];exact(A82 hlt hs hpx).symm
   |false=>rw[if_neg (by simp)];refine A7 ⟨i+1,by omega,λj hj=>by rcases Nat.lt_succ_iff_lt_or_eq.1 hj with h |rfl;exact hs j h;exact hpx⟩ (by show l.length-(i+1)<l.length-i;omega) (V4 hO (U3 hO) ?_);simp only[go_sem];exact⟨by rw[M9,M9],λi hi=>hids i hi,(by rw[IntKind.wrap_i64];omega)⟩
  ·rename_i hge;refine Q9 [.share] rfl rfl hO rfl ?_;simp only[go_sem];exact(A4b λj hj=>hs j (by omega)).symm
theorem B6l(l:List Joint)(f:FuncId)(first cap:List AV)(O:List (Nat×A5))(p:Joint->Bool)(hl:l.length<=4194304)(hO:okO O)
  (hids: ∀i∈(AV.fn (.func f) first cap).ids,(ofL O i).isSome)
  (hp: ∀x∈l,A1 Tryz.prog f (first++ [.agg x.enc]++cap) O (sB (p x)) O):
  A1 Tryz.prog B6n [A2 24 Joint.enc default l, .fn (.func f) first cap] O (sB (l.any p)) O:=by
 refine H8 hm A4 Tryz.func469 rfl rfl ?_;simp only[go_sem];refine V7 (B9k l f first cap O p hl hO hids hp) hO rfl ?_ rfl ?_
 ·intro a ha;simp only[List.mem_cons,List.not_mem_nil,or_false]at ha;rcases ha with rfl |rfl
  ·intro i hi;simp[AV.ids]at hi
  ·exact hids
 ·simp only[go_sem];refine Q9 [.share] rfl rfl hO (U3 hO) ?_;simp only[go_sem];exact B9n p l
def C5(a:Int)(b:Int):Int:=(sat (IntKind.i64.wrap ((sat a)+(sat b))))
theorem M8(a:Int)(b:Int):A1 Tryz.prog E6m [sI a,sI b] [] (sI (C5 a b)) []:=by
 refine en1 hm A4 Tryz.func299 rfl rfl ?_;have:=J7
 have:=C5.eq_1 a b;exact C9
def B4(a:Int)(b:Int):Int:=let v3:=(A1g (IntKind.i64.wrap ((sat a)*(sat b))) 65536);(sat v3)
theorem L8(a:Int)(b:Int):A1 Tryz.prog E7m [sI a,sI b] [] (sI (B4 a b)) []:=by
 refine en1 hm A4 Tryz.func298 rfl rfl ?_;have:=J7
 have:=P5
 have:=B4.eq_1 a b;exact C9
def P7(x:Int)(low:Int)(high:Int):Int:=if((decide (high<low))||(decide (x<low)))=true then(low)else(if high<x then(high)else(x))
theorem A4p(x:Int)(low:Int)(high:Int):A1 Tryz.prog E2c [sI x,sI low,sI high] [] (sI (P7 x low high)) []:=by refine en1 hm A4 Tryz.func186 rfl rfl ?_;have:=P7.eq_1 x low high;exact C9
def Y1(a:Int)(b:Int):Int:=if((sat b)==0)=true then(let v3:=(P7 (IntKind.i64.wrap ((sat a)*65536)) (-1) 1);(IntKind.i64.wrap (v3*536870911)))else(if(sat b)<0 then(let v4:=(A1g (IntKind.i64.wrap (0-(IntKind.i64.wrap ((sat a)*65536)))) (IntKind.i64.wrap (0-(sat b))));(sat v4))else(let v6:=(A1g (IntKind.i64.wrap ((sat a)*65536)) (sat b));(sat v6)))
theorem A6w(a:Int)(b:Int):A1 Tryz.prog E6r [sI a,sI b] [] (sI (Y1 a b)) []:=by
 refine en1 hm A4 Tryz.func416 rfl rfl ?_;have:=J7
 have:=A4p
 have:=P5
 have:=Y1.eq_1 a b;exact C9
def A8q(n:Int)(d:Int):Int:=if(((decide (d<1))||(decide (4611686018427387904<d)))||(decide (n<1)))=true then(0)else(if d<=n then(65536)else(if d<70368744177664 then(let v1:=(A1g (IntKind.i64.wrap (n*65536)) d);v1)else(let v2:=(A1g d 65536);let v3:=(A1g n v2);(if 65536<v3 then 65536 else v3))))
theorem B7c(n:Int)(d:Int):A1 Tryz.prog E2j [sI n,sI d] [] (sI (A8q n d)) []:=by
 refine en1 hm A4 Tryz.func486 rfl rfl ?_;have:=P5
 have:=A8q.eq_1 n d;exact C9
def B8m(x:Int):Int:=let v2:=(isq (IntKind.i64.wrap ((sat x)*65536)));v2
theorem E4s(x:Int):A1 Tryz.prog E3p [sI x] [] (sI (B8m x)) []:=by
 refine en1 hm A4 Tryz.func437 rfl rfl ?_;have:=J7
 have:=B2d
 have:=B8m.eq_1 x;exact C9
def B4f(a:Int)(b:Int)(t:Int):Int:=let v1:=(sat (sat b-sat a));let v2:=(B4 v1 t);let v3:=(C5 a v2);v3
theorem E3n(a:Int)(b:Int)(t:Int):A1 Tryz.prog E51 [sI a,sI b,sI t] [] (sI (B4f a b t)) []:=by
 refine en1 hm A4 Tryz.func400 rfl rfl ?_;have:=Q5
 have:=L8
 have:=M8
 have:=B4f.eq_1 a b t;exact C9
def I5(a:Int):Int:=if 205888<=(a.tmod 411776)then((IntKind.i64.wrap ((a.tmod 411776)-411776)))else(if(a.tmod 411776)<(-205888)then((IntKind.i64.wrap ((a.tmod 411776)+411776)))else((a.tmod 411776)))
theorem A4w(a:Int):A1 Tryz.prog D2o [sI a] [] (sI (I5 a)) []:=by refine en1 hm A4 Tryz.func443 rfl rfl ?_;have:=I5.eq_1 a;exact C9
def B5z(x:Int):Int:=if x<0 then((IntKind.i64.wrap (0-x)))else(x)
theorem D3j(x:Int):A1 Tryz.prog E74 [sI x] [] (sI (B5z x)) []:=by refine en1 hm A4 Tryz.func518 rfl rfl ?_;have:=B5z.eq_1 x;exact C9
def B50(a:Int):Int:=let v1:=(I5 a);let v2:=(B5z v1);if 102944<v2 then(let v3:=(Y1 (IntKind.i64.wrap (205888-v2)) 102944);let v4:=(B4 v3 v3);let v5:=(B4 v4 4569);let v6:=(sat (sat 41906-sat v5));let v7:=(B4 v4 v6);let v8:=(sat (sat 102873-sat v7));let v9:=(B4 v3 v8);if v1<0 then((IntKind.i64.wrap (0-v9)))else(v9))else(let v10:=(Y1 v2 102944);let v11:=(B4 v10 v10);let v12:=(B4 v11 4569);let v13:=(sat (sat 41906-sat v12));let v14:=(B4 v11 v13);let v15:=(sat (sat 102873-sat v14));let v16:=(B4 v10 v15);if v1<0 then((IntKind.i64.wrap (0-v16)))else(v16))
theorem D3e(a:Int):A1 Tryz.prog E6c [sI a] [] (sI (B50 a)) []:=by
 refine en1 hm A4 Tryz.func445 rfl rfl ?_;have:=A4w
 have:=D3j
 have:=A6w
 have:=L8
 have:=Q5
 have:=B50.eq_1 a;exact C9
def C14(a:Int):Int:=let v1:=(I5 a);let v2:=(B5z v1);let v3:=(B50 (IntKind.i64.wrap (102944-v2)));v3
theorem E65(a:Int):A1 Tryz.prog E75 [sI a] [] (sI (C14 a)) []:=by
 refine en1 hm A4 Tryz.func444 rfl rfl ?_;have:=A4w
 have:=D3j
 have:=D3e
 have:=C14.eq_1 a;exact C9
structure Rot where
 Cos:Int
 Sin:Int
 deriving DecidableEq,Inhabited
def Rot.enc(x:Rot):List AV:=[sI x.Cos,sI x.Sin]
def Rot.zero:List AV:= [sI 0,sI 0]
attribute [go_sem] Rot.enc Rot.zero
@[go_sem] theorem G4g(x:Rot):Rot.mk x.Cos x.Sin=x:=rfl
structure AABB where
 Min:Vec
 Max:Vec
 deriving DecidableEq,Inhabited
def AABB.enc(x:AABB):List AV:=[sI x.Min.X,sI x.Min.Y,sI x.Max.X,sI x.Max.Y]
def AABB.zero:List AV:= [sI 0,sI 0,sI 0,sI 0]
attribute [go_sem] AABB.enc AABB.zero
@[go_sem] theorem G4f(x:AABB):AABB.mk x.Min x.Max=x:=rfl
def B1q(a:Int):Rot:=let v1:=(C14 a);let v2:=(B50 a);let v3:=(isq (IntKind.i64.wrap ((IntKind.i64.wrap (v1*v1))+(IntKind.i64.wrap (v2*v2)))));let v4:=(Y1 v1 v3);let v5:=(Y1 v2 v3);(⟨v4,v5⟩:Rot)
theorem C1u(a:Int):A1 Tryz.prog E6w [sI a] [] (.agg (B1q a).enc) []:=by
 refine L5 25 [(2,some (some 2))] hm A4 Tryz.func324 rfl ?_;have:=E65
 have:=D3e
 have:=B2d
 have:=A6w
 have:=B1q.eq_1 a;exact C9
def A0b(a:Int)(b:Int):Int:=let v1:=(I5 b);let v2:=(I5 a);let v3:=(I5 (IntKind.i64.wrap (v1-v2)));v3
theorem B8t(a:Int)(b:Int):A1 Tryz.prog E5q [sI a,sI b] [] (sI (A0b a b)) []:=by
 refine en1 hm A4 Tryz.func447 rfl rfl ?_;have:=A4w
 have:=A0b.eq_1 a b;exact C9
def A5e(n:Int):Int:=let v1:=(A1g n 65536);(sat v1)
theorem B5t(n:Int):A1 Tryz.prog D9d [sI n] [] (sI (A5e n)) []:=by
 refine en1 hm A4 Tryz.func394 rfl rfl ?_;have:=P5
 have:=J7
 have:=A5e.eq_1 n;exact C9
def A11(a:Vec)(b:Vec):Vec:=let v1:=(C5 a.X b.X);let v2:=(C5 a.Y b.Y);(⟨v1,v2⟩:Vec)
theorem A47(a:Vec)(b:Vec):A1 Tryz.prog F1i [.agg a.enc, .agg b.enc] [] (.agg (A11 a b).enc) []:=by
 refine L5 16 [(4,some (some 2))] hm A4 Tryz.func278 rfl ?_;have:=M8
 have:=A11.eq_1 a b;exact C9
def R0(v:Vec)(k:Int):Vec:=let v1:=(B4 v.X k);let v2:=(B4 v.Y k);(⟨v1,v2⟩:Vec)
theorem A7y(v:Vec)(k:Int):A1 Tryz.prog E3o [.agg v.enc,sI k] [] (.agg (R0 v k).enc) []:=by
 refine L5 14 [(4,some (some 2))] hm A4 Tryz.func297 rfl ?_;have:=L8
 have:=R0.eq_1 v k;exact C9
def O7(a:Vec)(b:Vec):Int:=let v1:=(B3t a);let v2:=(B3t b);let v3:=(A5e (IntKind.i64.wrap ((IntKind.i64.wrap (v1.X*v2.X))+(IntKind.i64.wrap (v1.Y*v2.Y)))));v3
theorem Z3(a:Vec)(b:Vec):A1 Tryz.prog F0p [.agg a.enc, .agg b.enc] [] (sI (O7 a b)) []:=by
 refine en1 hm A4 Tryz.func254 rfl rfl ?_;have:=A0y
 have:=B5t
 have:=O7.eq_1 a b;exact C9
def A1c(a:Vec)(b:Vec):Int:=let v1:=(B3t a);let v2:=(B3t b);let v3:=(A5e (IntKind.i64.wrap ((IntKind.i64.wrap (v1.X*v2.Y))-(IntKind.i64.wrap (v1.Y*v2.X)))));v3
theorem A71(a:Vec)(b:Vec):A1 Tryz.prog E38 [.agg a.enc, .agg b.enc] [] (sI (A1c a b)) []:=by
 refine en1 hm A4 Tryz.func435 rfl rfl ?_;have:=A0y
 have:=B5t
 have:=A1c.eq_1 a b;exact C9
def A3k(v:Vec):Vec:=let v1:=(A32 v);if(v1==0)=true then((⟨0,0⟩:Vec))else(let v2:=(Y1 v.X v1);let v3:=(Y1 v.Y v1);(⟨v2,v3⟩:Vec))
theorem A5h(v:Vec):A1 Tryz.prog D5b [.agg v.enc] [] (.agg (A3k v).enc) []:=by
 refine L5 18 [(2,some (some 2))] hm A4 Tryz.func419 rfl ?_;have:=U6
 have:=A6w
 have:=A3k.eq_1 v;exact C9
def A0g(v:Vec):Vec:=let v1:=(B3t v);(⟨(IntKind.i64.wrap (0-v1.Y)),v1.X⟩:Vec)
theorem C1n(v:Vec):A1 Tryz.prog E7t [.agg v.enc] [] (.agg (A0g v).enc) []:=by
 refine L5 11 [(2,some (some 2))] hm A4 Tryz.func311 rfl ?_;have:=A0y
 have:=A0g.eq_1 v;exact C9
def A6x(a:Vec)(b:Vec)(t:Int):Vec:=let v1:=(B4f a.X b.X t);let v2:=(B4f a.Y b.Y t);(⟨v1,v2⟩:Vec)
theorem B1t(a:Vec)(b:Vec)(t:Int):A1 Tryz.prog E6g [.agg a.enc, .agg b.enc,sI t] [] (.agg (A6x a b t).enc) []:=by
 refine L5 20 [(6,some (some 2))] hm A4 Tryz.func264 rfl ?_;have:=E3n
 have:=A6x.eq_1 a b t;exact C9
def A8y(r:Rot)(v:Vec):Vec:=let v3:=(B3t v);let v4:=(A5e (IntKind.i64.wrap ((IntKind.i64.wrap ((sat r.Cos)*v3.X))-(IntKind.i64.wrap ((sat r.Sin)*v3.Y)))));let v5:=(A5e (IntKind.i64.wrap ((IntKind.i64.wrap ((sat r.Sin)*v3.X))+(IntKind.i64.wrap ((sat r.Cos)*v3.Y)))));(⟨v4,v5⟩:Vec)
theorem B68(r:Rot)(v:Vec):A1 Tryz.prog E2h [.agg r.enc, .agg v.enc] [] (.agg (A8y r v).enc) []:=by
 refine L5 36 [(4,some (some 2))] hm A4 Tryz.func323 rfl ?_;have:=J7
 have:=A0y
 have:=B5t
 have:=A8y.eq_1 r v;exact C9
def X0(t:Transform)(v:Vec):Vec:=let v1:=(B1q t.Angle);let v2:=(A8y v1 v);let v3:=(A11 v2 t.Position);v3
theorem A7a(t:Transform)(v:Vec):A1 Tryz.prog D2z [.agg t.enc, .agg v.enc] [] (.agg (X0 t v).enc) []:=by
 refine L5 13 [(4,some (some 2))] hm A4 Tryz.func321 rfl ?_;have:=C1u
 have:=B68
 have:=A47
 have:=X0.eq_1 t v;exact C9
def A6e(a:Int)(d:Int):Int:=let v1:=(I5 a);let v2:=(I5 (IntKind.i64.wrap (v1+d)));v2
theorem B55(a:Int)(d:Int):A1 Tryz.prog C91 [sI a,sI d] [] (sI (A6e a d)) []:=by
 refine en1 hm A4 Tryz.func322 rfl rfl ?_;have:=A4w
 have:=A6e.eq_1 a d;exact C9
def A1k(a:Transform)(b:Transform)(t:Int):Transform:=let v1:=(A0b a.Angle b.Angle);let v2:=(B4 v1 t);let v3:=(A6x a.Position b.Position t);let v4:=(A6e a.Angle v2);(⟨v3,v4⟩:Transform)
theorem B01(a:Transform)(b:Transform)(t:Int):A1 Tryz.prog B98 [.agg a.enc, .agg b.enc,sI t] [] (.agg (A1k a b t).enc) []:=by
 refine L5 26 [(6,some (some 3))] hm A4 Tryz.func326 rfl ?_;have:=B8t
 have:=L8
 have:=B1t
 have:=B55
 have:=A1k.eq_1 a b t;exact C9
def A7n(t:Transform)(c:Vec)(v:Vec)(w:Int)(dt:Int):Transform:=let v1:=(X0 t c);let v2:=(R0 v dt);let v3:=(A11 v1 v2);let v4:=(B4 w dt);let v5:=(A6e t.Angle v4);let v6:=(B1q v5);let v7:=(A8y v6 c);let v8:=(L9 v3 v7);(⟨v8,v5⟩:Transform)
theorem C3d(t:Transform)(c:Vec)(v:Vec)(w:Int)(dt:Int):A1 Tryz.prog C36 [.agg t.enc, .agg c.enc, .agg v.enc,sI w,sI dt] [] (.agg (A7n t c v w dt).enc) []:=by
 refine L5 34 [(10,some (some 3))] hm A4 Tryz.func195 rfl ?_;have:=A7a
 have:=A7y
 have:=A47
 have:=L8
 have:=B55
 have:=C1u
 have:=B68
 have:=K2
 have:=A7n.eq_1 t c v w dt;exact C9
def J8(v:Vec):Vec:=(⟨(sat v.X),(sat v.Y)⟩:Vec)
theorem D61(v:Vec):A1 Tryz.prog D5u [.agg v.enc] [] (.agg (J8 v).enc) []:=by
 refine L5 10 [(2,some (some 2))] hm A4 Tryz.func408 rfl ?_;have:=J7
 have:=J8.eq_1 v;exact C9
def A76(v:Vec):Bool:=(((sat v.X)==v.X)&&((sat v.Y)==v.Y))
theorem D42(v:Vec):A1 Tryz.prog D5k [.agg v.enc] [] (sB (A76 v)) []:=by
 refine en1 hm A4 Tryz.func407 rfl rfl ?_;have:=J7
 have:=A76.eq_1 v;exact C9
def B8x(a:Vec)(b:Vec):Vec:=(⟨(if b.X<a.X then b.X else a.X),(if b.Y<a.Y then b.Y else a.Y)⟩:Vec)
theorem C9z(a:Vec)(b:Vec):A1 Tryz.prog E5t [.agg a.enc, .agg b.enc] [] (.agg (B8x a b).enc) []:=by refine L5 16 [(4,some (some 2))] hm A4 Tryz.func409 rfl ?_;have:=B8x.eq_1 a b;exact C9
def B9t(a:Vec)(b:Vec):Vec:=(⟨(if a.X<b.X then b.X else a.X),(if a.Y<b.Y then b.Y else a.Y)⟩:Vec)
theorem C9x(a:Vec)(b:Vec):A1 Tryz.prog E5o [.agg a.enc, .agg b.enc] [] (.agg (B9t a b).enc) []:=by refine L5 16 [(4,some (some 2))] hm A4 Tryz.func410 rfl ?_;have:=B9t.eq_1 a b;exact C9
def A33(b:AABB):Bool:=let v1:=(A76 b.Min);let v2:=(A76 b.Max);((((decide (b.Min.X<=b.Max.X))&&(decide (b.Min.Y<=b.Max.Y)))&&v1)&&v2)
theorem B3q(b:AABB):A1 Tryz.prog E54 [.agg b.enc] [] (sB (A33 b)) []:=by
 refine en1 hm A4 Tryz.func275 rfl rfl ?_;have:=D42
 have:=A33.eq_1 b;exact C9
def B39(a:AABB)(b:AABB):Bool:=((((decide (a.Min.X<=b.Max.X))&&(decide (b.Min.X<=a.Max.X)))&&(decide (a.Min.Y<=b.Max.Y)))&&(decide (b.Min.Y<=a.Max.Y)))
theorem D7r(a:AABB)(b:AABB):A1 Tryz.prog D56 [.agg a.enc, .agg b.enc] [] (sB (B39 a b)) []:=by refine en1 hm A4 Tryz.func276 rfl rfl ?_;have:=B39.eq_1 a b;exact C9
def A23(a:AABB)(b:AABB):Bool:=let v1:=(A33 a);let v2:=(A33 b);let v3:=(B39 a b);((v1&&v2)&&v3)
theorem C0p(a:AABB)(b:AABB):A1 Tryz.prog D7e [.agg a.enc, .agg b.enc] [] (sB (A23 a b)) []:=by
 refine en1 hm A4 Tryz.func168 rfl rfl ?_;have:=B3q
 have:=D7r
 have:=A23.eq_1 a b;exact C9
def B7j(b:AABB)(margin:Int):AABB:=let v1:=(A33 b);if v1=false then((⟨(⟨0,0⟩:Vec),(⟨0,0⟩:Vec)⟩:AABB))else(let v2:=(sat (sat b.Min.X-sat margin));let v3:=(sat (sat b.Min.Y-sat margin));let v4:=(C5 b.Max.X margin);let v5:=(C5 b.Max.Y margin);let v6:=(A33 (⟨(⟨v2,v3⟩:Vec),(⟨v4,v5⟩:Vec)⟩:AABB));if v6=false then((⟨(⟨0,0⟩:Vec),(⟨0,0⟩:Vec)⟩:AABB))else((⟨(⟨v2,v3⟩:Vec),(⟨v4,v5⟩:Vec)⟩:AABB)))
theorem E1x(b:AABB)(margin:Int):A1 Tryz.prog E14 [.agg b.enc,sI margin] [] (.agg (B7j b margin).enc) []:=by
 refine L5 38 [(4,some (some 4))] hm A4 Tryz.func464 rfl ?_;have:=λx1 x2 x3 x4=>cx_ (B3q ⟨⟨x1,x2⟩,⟨x3,x4⟩⟩)
 have:=B3q
 have:=Q5
 have:=M8
 have:=B7j.eq_1 b margin;exact C9
def A3(v:Vec):Vec:=(⟨(sat v.X),(sat v.Y)⟩:Vec)
theorem B6i(v:Vec):A1 Tryz.prog C80 [.agg v.enc] [] (.agg (A3 v).enc) []:=by
 refine L5 10 [(2,some (some 2))] hm A4 Tryz.func484 rfl ?_;have:=J7
 have:=A3.eq_1 v;exact C9
def A3z(c:Vec)(d:Vec)(p:Vec):Int:=(if(IntKind.i64.wrap ((IntKind.i64.wrap ((IntKind.i64.wrap (d.X-c.X))*(IntKind.i64.wrap (p.Y-c.Y))))-(IntKind.i64.wrap ((IntKind.i64.wrap (d.Y-c.Y))*(IntKind.i64.wrap (p.X-c.X))))))<(IntKind.i64.wrap (0-(IntKind.i64.wrap ((IntKind.i64.wrap ((IntKind.i64.wrap (d.X-c.X))*(IntKind.i64.wrap (p.Y-c.Y))))-(IntKind.i64.wrap ((IntKind.i64.wrap (d.Y-c.Y))*(IntKind.i64.wrap (p.X-c.X))))))))then(IntKind.i64.wrap (0-(IntKind.i64.wrap ((IntKind.i64.wrap ((IntKind.i64.wrap (d.X-c.X))*(IntKind.i64.wrap (p.Y-c.Y))))-(IntKind.i64.wrap ((IntKind.i64.wrap (d.Y-c.Y))*(IntKind.i64.wrap (p.X-c.X))))))))else(IntKind.i64.wrap ((IntKind.i64.wrap ((IntKind.i64.wrap (d.X-c.X))*(IntKind.i64.wrap (p.Y-c.Y))))-(IntKind.i64.wrap ((IntKind.i64.wrap (d.Y-c.Y))*(IntKind.i64.wrap (p.X-c.X)))))))
theorem C2a(c:Vec)(d:Vec)(p:Vec):A1 Tryz.prog C1r [.agg c.enc, .agg d.enc, .agg p.enc] [] (sI (A3z c d p)) []:=by refine en1 hm A4 Tryz.func485 rfl rfl ?_;have:=A3z.eq_1 c d p;exact C9
def B1(a:Vec)(b:Vec)(p:Vec):Vec×Int:=let v1:=(A3 a);let v2:=(A3 b);let v3:=(A3 p);let v4:=(A9q v1 v2);let v5:=(A8q (IntKind.i64.wrap ((IntKind.i64.wrap ((IntKind.i64.wrap (v3.X-v1.X))*(IntKind.i64.wrap (v2.X-v1.X))))+(IntKind.i64.wrap ((IntKind.i64.wrap (v3.Y-v1.Y))*(IntKind.i64.wrap (v2.Y-v1.Y)))))) v4);if(v5==0)=true then((v1,v5))else(if(v5==65536)=true then((v2,v5))else(let v6:=(A6x v1 v2 v5);(v6,v5)))
theorem B1x(a:Vec)(b:Vec)(p:Vec):A1 Tryz.prog C1o [.agg a.enc, .agg b.enc, .agg p.enc] [] (.tup [.agg (B1 a b p).1.enc,sI ((B1 a b p).2)]) []:=by
 refine A62 56 [(6,some (some 2)),(7,none)] hm A4 Tryz.func487 rfl ?_;have:=B6i
 have:=V8
 have:=B7c
 have:=B1t
 have:=B1.eq_1 a b p;exact C9
def A3g(x:Int):Bool:=((decide ((-268435456)<=x))&&(decide (x<=268435456)))
theorem C6y(x:Int):A1 Tryz.prog C7a [sI x] [] (sB (A3g x)) []:=by refine en1 hm A4 Tryz.func463 rfl rfl ?_;have:=A3g.eq_1 x;exact C9
def A0u(t:Transform):Bool:=let v1:=(A3g t.Position.X);let v2:=(A3g t.Position.Y);(((v1&&v2)&&(decide ((-205888)<=t.Angle)))&&(decide (t.Angle<205888)))
theorem D2u(t:Transform):A1 Tryz.prog D20 [.agg t.enc] [] (sB (A0u t)) []:=by
 refine en1 hm A4 Tryz.func359 rfl rfl ?_;have:=C6y
 have:=A0u.eq_1 t;exact C9
def A8u(x:Int):Bool:=((decide (x<(-268435456)))||(decide (268435456<x)))
theorem C6v(x:Int):A1 Tryz.prog E1o [sI x] [] (sB (A8u x)) []:=by refine en1 hm A4 Tryz.func348 rfl rfl ?_;have:=A8u.eq_1 x;exact C9
theorem E7y(t:Transform):A1 Tryz.prog E7h [.agg t.enc] [] (sB (A0u t)) []:=by
 refine en1 hm A4 Tryz.func220 rfl rfl ?_;simp only[go_sem];refine A0 (C6v t.Position.X) rfl ?_;generalize hv1:(A8u t.Position.X)=v1;simp only[go_sem];refine A0 (C6v t.Position.Y) rfl ?_;generalize hv2:(A8u t.Position.Y)=v2;simp only[go_sem,C0,B3,D8];have hd:A0u t=((((!v1)&&(!v2))&&(decide ((-205888)<=t.Angle)))&&(decide (t.Angle<205888))):=by(subst hv2;subst hv1;simp only[A0u,A3g,A8u]at*;(rw[Bool.eq_iff_iff];simp only[Bool.and_eq_true,Bool.not_eq_true',decide_eq_true_eq,decide_eq_false_iff_not,Bool.or_eq_false_iff]at*;omega))
 try rw[hd]
def A5f(v:Vec)(limit:Int):Bool:=((inR v.X (IntKind.i64.wrap (0-limit)) limit)&&(inR v.Y (IntKind.i64.wrap (0-limit)) limit))
theorem D97(v:Vec)(limit:Int):A1 Tryz.prog D9c [.agg v.enc,sI limit] [] (sB (A5f v limit)) []:=by
 refine en1 hm A4 Tryz.func357 rfl rfl ?_;have:=B7e
 have:=A5f.eq_1 v limit;exact C9
def B19(b:Body):Bool:=((!((b.Velocity.X==0)&&(b.Velocity.Y==0)))||(b.AngularVelocity != 0))
theorem E1p(b:Body):A1 Tryz.prog E2p [.agg b.enc] [] (sB (B19 b)) []:=by refine en1 hm A4 Tryz.func360 rfl rfl ?_;have:=B19.eq_1 b;exact C9
def A69(b:Body):Bool:=let v1:=(B19 b);if((b.Kind==1)&&(v1||((!((b.Force.X==0)&&(b.Force.Y==0)))||(b.Torque != 0))))=true then(false)else(if((b.Kind != 3)&&(b.Asleep||b.Bullet))=true then(false)else(((!b.Asleep)||(!v1))))
theorem D2h(b:Body):A1 Tryz.prog D23 [.agg b.enc] [] (sB (A69 b)) []:=by
 refine en1 hm A4 Tryz.func228 rfl rfl ?_;have:=E1p
 have:=A69.eq_1 b;exact C9
def Y7(s:Shape):Bool:=if(s.Kind==1)=true then(((s.Vertices.length:Int)==1))else(if(s.Kind==2)=true then(((s.Vertices.length:Int)==2))else(((decide (3<=(s.Vertices.length:Int)))&&(decide ((s.Vertices.length:Int)<=8)))))
theorem C9g(s:Shape):A1 Tryz.prog C9i [.agg s.enc] [] (sB (Y7 s)) []:=by refine en1 hm A4 Tryz.func376 rfl rfl ?_;have:=Y7.eq_1 s;exact C9
theorem G1r(s:Shape):Y7 s=true->(s.Kind=1->s.Vertices.length=1)/\(s.Kind=2->s.Vertices.length=2)/\(s.Kind=3->3<=s.Vertices.length):=by
 intro h;unfold Y7 at h
 (repeat' split at h) <;> simp only[Bool.and_eq_true,decide_eq_true_eq,beq_iff_eq]at* <;> omega
def A06(s:Shape):Bool:=if(s.Kind==3)=true then(((decide (3<=(s.Vertices.length:Int)))&&(decide ((s.Vertices.length:Int)<=8))))else(((s.Vertices.length:Int)==s.Kind))
theorem C8v(s:Shape):A1 Tryz.prog D0e [.agg s.enc] [] (sB (A06 s)) []:=by refine en1 hm A4 Tryz.func349 rfl rfl ?_;have:=A06.eq_1 s;exact C9
theorem G07(s:Shape):A06 s=true->(s.Kind=1->s.Vertices.length=1)/\(s.Kind=2->s.Vertices.length=2)/\(s.Kind=3->3<=s.Vertices.length):=by
 intro h;unfold A06 at h
 (repeat' split at h) <;> simp only[Bool.and_eq_true,decide_eq_true_eq,beq_iff_eq]at* <;> omega
def A34(n:Int):Bool:=((decide (n<(-1048576)))||(decide (1048576<n)))
theorem C9h(n:Int):A1 Tryz.prog C8d [sI n] [] (sB (A34 n)) []:=by refine en1 hm A4 Tryz.func379 rfl rfl ?_;have:=A34.eq_1 n;exact C9
def A1l(l:List Vec)(i1:Nat)(s1:Unit):(Unit) ⊕ (Bool):=let v1:=(A73 (l.getD i1 default));if v1=false then(.inr false)else(.inl ())
def A2o(l:List Vec):Bool:=(match D3 (A1l l) l.length ()with | .inr r=>r | .inl s1=>true)
theorem C59(l:List Vec)(hl:l.length<=1048576):A1 Tryz.prog C5r [A2 2 Vec.enc default l] [] (sB (A2o l)) []:=by
 refine en1 hm A4 Tryz.func482 rfl rfl ?_;have:=D2j
 have:=A2o.eq_1 l
 have:=λi_ s_=>A1l.eq_1 l i_ s_
 have:=λx_ Q_ σ_=> @lp_ Tryz.prog Tryz.f482.ntmps [] x_ Q_ σ_ hm (IE (A1l l) ()) (λ_=>True) l.length (λi_=> [(5, .share,A2 2 Vec.enc default l),(6, .share,sI (l.length:Int)),(7, .share,sI (i_:Int))]) (λi_=> []) [] rfl (λ_ _=>trivial) (by simp[go_sem]) (by simp[go_sem,A6]) (by simp[go_sem]);exact A4t
def A38(k:PairKey):Bool:=(((((decide (k.BodyA<k.BodyB))&&(decide (0<=k.FixtureA)))&&(decide (k.FixtureA<4)))&&(decide (0<=k.FixtureB)))&&(decide (k.FixtureB<4)))
theorem D0i(k:PairKey):A1 Tryz.prog C81 [.agg k.enc] [] (sB (A38 k)) []:=by refine en1 hm A4 Tryz.func237 rfl rfl ?_;have:=A38.eq_1 k;exact C9
def X2(vs:List Vec)(i1:Nat)(i2:Nat)(s2:Unit):(Unit) ⊕ (Bool):=let v2:=(ori (vs.getD i1 default) (vs.getD ((IntKind.i64.wrap ((i1:Int)+1)).tmod (vs.length:Int)).toNat default) (vs.getD i2 default));if((((i2:Int) != (i1:Int))&&((i2:Int) != ((IntKind.i64.wrap ((i1:Int)+1)).tmod (vs.length:Int))))&&(v2 != 1))=true then(.inr false)else(.inl ())
def U0(vs:List Vec)(i1:Nat)(s1:Unit):(Unit) ⊕ (Bool):=(match D3 (X2 vs i1) vs.length ()with | .inr r=> .inr r | .inl s2=> .inl ())
def J0(vs:List Vec):Bool:=let v1:=(A2o vs);if(((decide ((vs.length:Int)<3))||(decide (8<(vs.length:Int))))||(!v1))=true then(false)else((match D3 (U0 vs) vs.length ()with | .inr r=>r | .inl s1=>true))
theorem A6i(vs:List Vec)(hn:vs.length<=1048576):A1 Tryz.prog C7x [A2 2 Vec.enc default vs] [] (sB (J0 vs)) []:=by
 refine en1 hm A4 Tryz.func380 rfl rfl ?_;simp only[go_sem,D2];refine A0 (C59 vs (by(assumption))) rfl ?_;generalize hv1:(A2o vs)=v1;simp only[go_sem,D2,B3];by_cases h1:(((decide ((vs.length:Int)<3))||(decide (8<(vs.length:Int))))||(!v1))=true
 ·rw[if_pos h1];have hd:J0 vs=false:=by(unfold J0;exact hd_)
  try rw[hd]
 ·rw[if_neg h1];refine A9 hm (ι:= {p:Nat×Unit // p.1<=vs.length/\D3 (U0 vs) p.1 ()= .inl p.2}) (λi=> [(0, .share,A2 2 Vec.enc default vs),(3, .share,sI (vs.length:Int)),(22, .share,A2 2 Vec.enc default vs),(23, .share,sI (vs.length:Int)),(24, .share,sI (i.1.1:Int))]) (λi=> []) (λi=>vs.length-i.1.1) ⟨(0,()),by omega,rfl⟩ ?_ ?_
  ·refine D6 [] [] ?_;simp only[go_sem]
  ·rintro⟨⟨i1,s1⟩,hi1,hs1⟩;replace hi1:i1<=vs.length:=hi1;replace hs1:D3 (U0 vs) i1 ()= .inl s1:=hs1;simp only[go_sem];by_cases h2:(i1:Int)<(vs.length:Int)
   ·rw[if_pos h2];have hlt1:i1<vs.length:=by omega
    (repeat(with_reducible refine And.intro ?_ ?_;exact aI_))
    refine A9 hm (ι:= {p:Nat×Unit // p.1<=vs.length/\D3 (X2 vs i1) p.1 ()= .inl p.2}) (λi=> [(0, .share,A2 2 Vec.enc default vs),(3, .share,sI (vs.length:Int)),(4, .share,sI (i1:Int)),(5, .share, .ptr 96 0 0 1),(6, .share,sI ((IntKind.i64.wrap ((i1:Int)+1)).tmod (vs.length:Int))),(22, .share,A2 2 Vec.enc default vs),(23, .share,sI (vs.length:Int)),(24, .share,sI (i1:Int)),(33, .share,A2 2 Vec.enc default vs),(34, .share,sI (vs.length:Int)),(35, .share,sI (i.1.1:Int))]) (λi=> [(96, .box [sI ((vs.getD i1 default).X),sI ((vs.getD i1 default).Y)])]) (λi=>vs.length-i.1.1) ⟨(0,()),by omega,rfl⟩ ?_ ?_
    ·refine D6 [] [] ?_;simp only[go_sem]
    ·rintro⟨⟨i2,s2⟩,hi2,hs2⟩;replace hi2:i2<=vs.length:=hi2;replace hs2:D3 (X2 vs i1) i2 ()= .inl s2:=hs2;simp only[go_sem,C0,B3];by_cases h3:(i2:Int)<(vs.length:Int)
     ·rw[if_pos h3];have hlt2:i2<vs.length:=by omega
      (repeat(with_reducible refine And.intro ?_ ?_;exact aI_))
      refine A0 (A2c (vs.getD i1 default) (vs.getD ((IntKind.i64.wrap ((i1:Int)+1)).tmod (vs.length:Int)).toNat default) (vs.getD i2 default)) rfl ?_;generalize hv2:(ori (vs.getD i1 default) (vs.getD ((IntKind.i64.wrap ((i1:Int)+1)).tmod (vs.length:Int)).toNat default) (vs.getD i2 default))=v2;simp only[go_sem,C0,B3];by_cases h4:((((i2:Int) != (i1:Int))&&((i2:Int) != ((IntKind.i64.wrap ((i1:Int)+1)).tmod (vs.length:Int))))&&(v2 != 1))=true
      ·rw[if_pos h4];have e2:D3 (X2 vs i1) (i2+1) ()= .inr false:=N1 hs2 (by(unfold X2;exact hd_));replace e2:=Y4 e2 (show i2+1<=vs.length by omega);have e1:D3 (U0 vs) (i1+1) ()= .inr false:=N1 hs1 (by(unfold U0;exact hd_));replace e1:=Y4 e1 (show i1+1<=vs.length by omega);have hd:J0 vs=false:=by(unfold J0;exact hd_)
       try rw[hd]
      ·rw[if_neg h4];have hn:D3 (X2 vs i1) (i2+1) ()= .inl ():=N1 hs2 (by(unfold X2;exact hd_));refine A7 ⟨(i2+1,()),by omega,hn⟩ (by show vs.length-(i2+1)<vs.length-i2;omega) (D6 [] [] ?_);simp only[go_sem];exact A3c
     ·rw[if_neg h3];have hge:i2=vs.length:=by omega
      subst hge;have hn:D3 (U0 vs) (i1+1) ()= .inl ():=N1 hs1 (by(unfold U0;exact hd_));refine A7 ⟨(i1+1,()),by omega,hn⟩ (by show vs.length-(i1+1)<vs.length-i1;omega) (D6 [] [] ?_);simp only[go_sem];exact A3c
   ·rw[if_neg h2];have hge:i1=vs.length:=by omega
    subst hge;have hd:J0 vs=true:=by(unfold J0;exact hd_)
    try rw[hd]
theorem B72(vs:List Vec):J0 vs=true->3<=vs.length/\vs.length<=8:=by
 intro h;unfold J0 at h;simp only at h;split at h
 ·cases h
 ·rename_i hc;simp only[Bool.or_eq_true,decide_eq_true_eq,not_or]at hc;omega
def V9(vs:List Vec)(i1:Nat)(s1:Int):Int:=let v2:=(L9 (vs.getD ((IntKind.i64.wrap ((i1:Int)+1)).tmod (vs.length:Int)).toNat default) (vs.getD i1 default));let v3:=(A32 v2);(if v3<s1 then v3 else s1)
def A0e(vs:List Vec):Int:=let v1:=(J0 vs);if v1=false then(0)else(let s1:=itr (V9 vs) vs.length 536870911;s1)
theorem C1v(vs:List Vec)(hn:vs.length<=1048576):A1 Tryz.prog C1j [A2 2 Vec.enc default vs] [] (sI (A0e vs)) []:=by
 refine en1 hm A4 Tryz.func381 rfl rfl ?_;have:=B72 vs
 have:=A6i
 have:=K2
 have:=U6
 have:=A0e.eq_1 vs
 have:=λi_ s_=>V9.eq_1 vs i_ s_
 have:=λx_ Q_ σ_=> @lp_ Tryz.prog Tryz.f381.ntmps [] x_ Q_ σ_ hm (λ_=>True) (λ_=>True) vs.length (λi_=> [(0, .share,A2 2 Vec.enc default vs),(3, .share,sI (itr (V9 vs) i_ 536870911)),(9, .share,A2 2 Vec.enc default vs),(10, .share,sI (vs.length:Int)),(11, .share,sI (i_:Int))]) (λi_=> []) [] trivial (λ_ _=>trivial) (by simp[go_sem]) (by simp[go_sem,A6]) (by simp[go_sem]);exact A4t
structure I6 where
 e:Vec
 f:Vec
 cross:Int
 deriving DecidableEq,Inhabited
def I6.enc(x:I6):List AV:=[sI x.e.X,sI x.e.Y,sI x.f.X,sI x.f.Y,sI x.cross]
def I6.zero:List AV:= [sI 0,sI 0,sI 0,sI 0,sI 0]
attribute [go_sem] I6.enc I6.zero
@[go_sem] theorem F0u(x:I6):I6.mk x.e x.f x.cross=x:=rfl
def P6(vs:List Vec)(i1:Nat)(s1:(List I6)×Int):(List I6)×Int:=let v1:=(A1g (IntKind.i64.wrap ((IntKind.i64.wrap ((IntKind.i64.wrap ((vs.getD (i1+1) default).X-(vs.getD 0 default).X))*(IntKind.i64.wrap ((vs.getD (IntKind.i64.wrap (((i1+1:Nat):Int)+1)).toNat default).Y-(vs.getD 0 default).Y))))-(IntKind.i64.wrap ((IntKind.i64.wrap ((vs.getD (i1+1) default).Y-(vs.getD 0 default).Y))*(IntKind.i64.wrap ((vs.getD (IntKind.i64.wrap (((i1+1:Nat):Int)+1)).toNat default).X-(vs.getD 0 default).X)))))) 65536);((s1.1++ [(⟨(⟨(IntKind.i64.wrap ((vs.getD (i1+1) default).X-(vs.getD 0 default).X)),(IntKind.i64.wrap ((vs.getD (i1+1) default).Y-(vs.getD 0 default).Y))⟩:Vec),(⟨(IntKind.i64.wrap ((vs.getD (IntKind.i64.wrap (((i1+1:Nat):Int)+1)).toNat default).X-(vs.getD 0 default).X)),(IntKind.i64.wrap ((vs.getD (IntKind.i64.wrap (((i1+1:Nat):Int)+1)).toNat default).Y-(vs.getD 0 default).Y))⟩:Vec),v1⟩:I6)]),(IntKind.i64.wrap (s1.2+v1)))
def N9(vs:List Vec):(List I6)×Int:=let s1:=itr (P6 vs) (vs.length-2) ([],0);(s1.1,s1.2)
theorem C6o(vs:List Vec)(hn:vs.length<=1048576)(h0:1<=vs.length):A1 Tryz.prog E2e [A2 2 Vec.enc default vs] [] (.tup [A2 5 I6.enc default (N9 vs).1,sI ((N9 vs).2)]) []:=by
 refine enT hm A4 Tryz.func483 rfl rfl ?_;simp only[go_sem]
 (repeat(with_reducible refine And.intro ?_ ?_;exact aI_))
 refine A9 hm (ι:= {i:Nat // i<=(vs.length-2)}) (λi=> [(0, .share,A2 2 Vec.enc default vs),(4,if i.1=0 then .adopt else .share, .sl 1004 0 (itr (P6 vs) i.1 ([],0)).1.length (itr (P6 vs) i.1 ([],0)).1.length),(5, .share,sI ((itr (P6 vs) i.1 ([],0)).2)),(6, .share, .ptr 112 0 0 1),(7, .share,sI ((i.1+1:Nat):Int))]) (λi=> [(1004, .arr 5 (A8 I6.enc default (itr (P6 vs) i.1 ([],0)).1)),(112, .box [sI ((vs.getD 0 default).X),sI ((vs.getD 0 default).Y)])]) (λi=>(vs.length-2)-i.1) ⟨0,by omega⟩ ?_ ?_
 ·refine D6 [] [1004] ?_;simp only[go_sem,H5];exact A3c
 ·rintro⟨i1,hi1⟩;dsimp only;generalize hs1:itr (P6 vs) i1 ([],0)=s1;have hl1_0:(s1.1).length<=((([],0):(List I6)×Int).1).length+1*i1:=by rw[<-hs1];exact A7i (λs:(List I6)×Int=>(s.1).length) 1 (λi s=>by(unfold P6;(repeat' split) <;> simp <;> omega)) i1 _
  dsimp only[List.length_nil]at hl1_0;simp only[go_sem];by_cases h1:(IntKind.i64.wrap (((i1+1:Nat):Int)+1))<(vs.length:Int)
  ·rw[if_pos h1];have hlt1:i1<(vs.length-2):=by(simp only[IntKind.wrap_i64]at h1;omega)
   (repeat(with_reducible refine And.intro ?_ ?_;exact aI_))
   refine A0 (P5 (IntKind.i64.wrap ((IntKind.i64.wrap ((IntKind.i64.wrap ((vs.getD (i1+1) default).X-(vs.getD 0 default).X))*(IntKind.i64.wrap ((vs.getD (IntKind.i64.wrap (((i1+1:Nat):Int)+1)).toNat default).Y-(vs.getD 0 default).Y))))-(IntKind.i64.wrap ((IntKind.i64.wrap ((vs.getD (i1+1) default).Y-(vs.getD 0 default).Y))*(IntKind.i64.wrap ((vs.getD (IntKind.i64.wrap (((i1+1:Nat):Int)+1)).toNat default).X-(vs.getD 0 default).X)))))) 65536) rfl ?_;generalize hv1:(A1g (IntKind.i64.wrap ((IntKind.i64.wrap ((IntKind.i64.wrap ((vs.getD (i1+1) default).X-(vs.getD 0 default).X))*(IntKind.i64.wrap ((vs.getD (IntKind.i64.wrap (((i1+1:Nat):Int)+1)).toNat default).Y-(vs.getD 0 default).Y))))-(IntKind.i64.wrap ((IntKind.i64.wrap ((vs.getD (i1+1) default).Y-(vs.getD 0 default).Y))*(IntKind.i64.wrap ((vs.getD (IntKind.i64.wrap (((i1+1:Nat):Int)+1)).toNat default).X-(vs.getD 0 default).X)))))) 65536)=v1;simp only[go_sem]
   (repeat(with_reducible refine And.intro ?_ ?_;exact aI_))
   have hn:itr (P6 vs) (i1+1) ([],0)=((s1.1++ [(⟨(⟨(IntKind.i64.wrap ((vs.getD (i1+1) default).X-(vs.getD 0 default).X)),(IntKind.i64.wrap ((vs.getD (i1+1) default).Y-(vs.getD 0 default).Y))⟩:Vec),(⟨(IntKind.i64.wrap ((vs.getD (IntKind.i64.wrap (((i1+1:Nat):Int)+1)).toNat default).X-(vs.getD 0 default).X)),(IntKind.i64.wrap ((vs.getD (IntKind.i64.wrap (((i1+1:Nat):Int)+1)).toNat default).Y-(vs.getD 0 default).Y))⟩:Vec),v1⟩:I6)]),(IntKind.i64.wrap (s1.2+v1))):=by rw[E4,hs1];(unfold P6;exact hd_)
   refine A7 ⟨i1+1,by omega⟩ (by show(vs.length-2)-(i1+1)<(vs.length-2)-i1;omega) (D6 [] [] ?_);simp only[go_sem,hn]
   all_goals((repeat' (with_reducible apply And.intro)) <;> first |exact A1y ((⟨(⟨(IntKind.i64.wrap ((vs.getD (i1+1) default).X-(vs.getD 0 default).X)),(IntKind.i64.wrap ((vs.getD (i1+1) default).Y-(vs.getD 0 default).Y))⟩:Vec),(⟨(IntKind.i64.wrap ((vs.getD (IntKind.i64.wrap (((i1+1:Nat):Int)+1)).toNat default).X-(vs.getD 0 default).X)),(IntKind.i64.wrap ((vs.getD (IntKind.i64.wrap (((i1+1:Nat):Int)+1)).toNat default).Y-(vs.getD 0 default).Y))⟩:Vec),v1⟩:I6)) rfl rfl |exact A3c)
  ·rw[if_neg h1];have hge:i1=(vs.length-2):=by(simp only[IntKind.wrap_i64]at h1;omega)
   subst hge;have hd:N9 vs=(s1.1,s1.2):=by(unfold N9;exact hd_)
   try rw[hd]
   try simp only[go_sem]
def X7(vs:List Vec):Int:=let v1:=(J0 vs);if v1=false then(0)else(let v2:=(N9 vs);let v3:=(A1g v2.2 2);v3)
theorem C22(vs:List Vec)(hn:vs.length<=1048576):A1 Tryz.prog D88 [A2 2 Vec.enc default vs] [] (sI (X7 vs)) []:=by
 refine en1 hm A4 Tryz.func382 rfl rfl ?_;simp only[go_sem];have p1:=B72 vs;refine A0 (A6i vs (by(assumption))) rfl ?_;generalize hv1:(J0 vs)=v1 at*;simp only[go_sem];by_cases h2:v1=false
 ·rw[if_pos h2];have hd:X7 vs=0:=by(unfold X7;exact hd_)
  try rw[hd]
 ·rw[if_neg h2];refine A0 (C6o vs (by(assumption)) (by(exact K8))) rfl ?_;generalize hv2:(N9 vs)=v2;simp only[go_sem];refine A0 (P5 v2.2 2) rfl ?_;generalize hv3:(A1g v2.2 2)=v3;simp only[go_sem];have hd:X7 vs=v3:=by(unfold X7;exact hd_)
  try rw[hd]
def A1m(vs:List Vec)(i2:Nat)(i3:Nat)(s3:Unit):(Unit) ⊕ (Bool):=let v2:=(ori (vs.getD i2 default) (vs.getD ((IntKind.i64.wrap ((i2:Int)+1)).tmod (vs.length:Int)).toNat default) (vs.getD i3 default));if((((i3:Int) != (i2:Int))&&((i3:Int) != ((IntKind.i64.wrap ((i2:Int)+1)).tmod (vs.length:Int))))&&(v2 != 1))=true then(.inr false)else(.inl ())
def A0l(vs:List Vec)(i2:Nat)(s2:Unit):(Unit) ⊕ (Bool):=(match D3 (A1m vs i2) vs.length ()with | .inr r=> .inr r | .inl s3=> .inl ())
def A0t(vs:List Vec)(i1:Nat)(s1:Unit):(Unit) ⊕ (Bool):=let v1:=(A73 (vs.getD i1 default));if v1=false then(.inr false)else(.inl ())
def N0(vs:List Vec):Bool:=if((decide ((vs.length:Int)<3))||(decide (8<(vs.length:Int))))=true then(false)else((match D3 (A0t vs) vs.length ()with | .inr r=>r | .inl s1=>(match D3 (A0l vs) vs.length ()with | .inr r=>r | .inl s2=>true)))
theorem B5n(vs:List Vec)(hn:vs.length<=1048576):A1 Tryz.prog D92 [A2 2 Vec.enc default vs] [] (sB (N0 vs)) []:=by
 refine en1 hm A4 Tryz.func352 rfl rfl ?_;simp only[go_sem,D2];by_cases h1:((decide ((vs.length:Int)<3))||(decide (8<(vs.length:Int))))=true
 ·rw[if_pos h1];have hd:N0 vs=false:=by(unfold N0;exact hd_)
  try rw[hd]
 ·rw[if_neg h1];refine A9 hm (ι:= {p:Nat×Unit // p.1<=vs.length/\D3 (A0t vs) p.1 ()= .inl p.2}) (λi=> [(0, .share,A2 2 Vec.enc default vs),(3, .share,sI (vs.length:Int)),(4, .share,sI (i.1.1:Int))]) (λi=> []) (λi=>vs.length-i.1.1) ⟨(0,()),by omega,rfl⟩ ?_ ?_
  ·refine D6 [] [] ?_;simp only[go_sem]
  ·rintro⟨⟨i1,s1⟩,hi1,hs1⟩;replace hi1:i1<=vs.length:=hi1;replace hs1:D3 (A0t vs) i1 ()= .inl s1:=hs1;simp only[go_sem];by_cases h2:(i1:Int)<(vs.length:Int)
   ·rw[if_pos h2];have hlt1:i1<vs.length:=by omega
    (repeat(with_reducible refine And.intro ?_ ?_;exact aI_))
    refine A0 (E13 (vs.getD i1 default)) rfl ?_;generalize hv1:(A73 (vs.getD i1 default))=v1;simp only[go_sem];by_cases h3:v1=false
    ·rw[if_pos h3];have e1:D3 (A0t vs) (i1+1) ()= .inr false:=N1 hs1 (by(unfold A0t;exact hd_));replace e1:=Y4 e1 (show i1+1<=vs.length by omega);have hd:N0 vs=false:=by(unfold N0;exact hd_)
     try rw[hd]
    ·rw[if_neg h3];have hn:D3 (A0t vs) (i1+1) ()= .inl ():=N1 hs1 (by(unfold A0t;exact hd_));refine A7 ⟨(i1+1,()),by omega,hn⟩ (by show vs.length-(i1+1)<vs.length-i1;omega) (D6 [] [] ?_);simp only[go_sem];exact A3c
   ·rw[if_neg h2];have hge:i1=vs.length:=by omega
    subst hge;refine A9 hm (ι:= {p:Nat×Unit // p.1<=vs.length/\D3 (A0l vs) p.1 ()= .inl p.2}) (λi=> [(0, .share,A2 2 Vec.enc default vs),(3, .share,sI (vs.length:Int)),(5, .share,sI (i.1.1:Int))]) (λi=> []) (λi=>vs.length-i.1.1) ⟨(0,()),by omega,rfl⟩ ?_ ?_
    ·refine D6 [] [] ?_;simp only[go_sem]
    ·rintro⟨⟨i2,s2⟩,hi2,hs2⟩;replace hi2:i2<=vs.length:=hi2;replace hs2:D3 (A0l vs) i2 ()= .inl s2:=hs2;simp only[go_sem];by_cases h4:(i2:Int)<(vs.length:Int)
     ·rw[if_pos h4];have hlt2:i2<vs.length:=by omega
      (repeat(with_reducible refine And.intro ?_ ?_;exact aI_))
      refine A9 hm (ι:= {p:Nat×Unit // p.1<=vs.length/\D3 (A1m vs i2) p.1 ()= .inl p.2}) (λi=> [(0, .share,A2 2 Vec.enc default vs),(3, .share,sI (vs.length:Int)),(5, .share,sI (i2:Int)),(6, .share,sI ((IntKind.i64.wrap ((i2:Int)+1)).tmod (vs.length:Int))),(7, .share,sI (i.1.1:Int))]) (λi=> []) (λi=>vs.length-i.1.1) ⟨(0,()),by omega,rfl⟩ ?_ ?_
      ·refine D6 [] [] ?_;simp only[go_sem]
      ·rintro⟨⟨i3,s3⟩,hi3,hs3⟩;replace hi3:i3<=vs.length:=hi3;replace hs3:D3 (A1m vs i2) i3 ()= .inl s3:=hs3;simp only[go_sem,C0,B3];by_cases h5:(i3:Int)<(vs.length:Int)
       ·rw[if_pos h5];have hlt3:i3<vs.length:=by omega
        (repeat(with_reducible refine And.intro ?_ ?_;exact aI_))
        refine A0 (D14 (vs.getD i2 default) (vs.getD ((IntKind.i64.wrap ((i2:Int)+1)).tmod (vs.length:Int)).toNat default) (vs.getD i3 default)) rfl ?_;generalize hv2:(ori (vs.getD i2 default) (vs.getD ((IntKind.i64.wrap ((i2:Int)+1)).tmod (vs.length:Int)).toNat default) (vs.getD i3 default))=v2;simp only[go_sem,C0,B3];by_cases h6:((((i3:Int) != (i2:Int))&&((i3:Int) != ((IntKind.i64.wrap ((i2:Int)+1)).tmod (vs.length:Int))))&&(v2 != 1))=true
        ·rw[if_pos h6];have e3:D3 (A1m vs i2) (i3+1) ()= .inr false:=N1 hs3 (by(unfold A1m;exact hd_));replace e3:=Y4 e3 (show i3+1<=vs.length by omega);have e2:D3 (A0l vs) (i2+1) ()= .inr false:=N1 hs2 (by(unfold A0l;exact hd_));replace e2:=Y4 e2 (show i2+1<=vs.length by omega);have hd:N0 vs=false:=by(unfold N0;exact hd_)
         try rw[hd]
        ·rw[if_neg h6];have hn:D3 (A1m vs i2) (i3+1) ()= .inl ():=N1 hs3 (by(unfold A1m;exact hd_));refine A7 ⟨(i3+1,()),by omega,hn⟩ (by show vs.length-(i3+1)<vs.length-i3;omega) (D6 [] [] ?_);simp only[go_sem];exact A3c
       ·rw[if_neg h5];have hge:i3=vs.length:=by omega
        subst hge;have hn:D3 (A0l vs) (i2+1) ()= .inl ():=N1 hs2 (by(unfold A0l;exact hd_));refine A7 ⟨(i2+1,()),by omega,hn⟩ (by show vs.length-(i2+1)<vs.length-i2;omega) (D6 [] [] ?_);simp only[go_sem];exact A3c
     ·rw[if_neg h4];have hge:i2=vs.length:=by omega
      subst hge;have hd:N0 vs=true:=by(unfold N0;exact hd_)
      try rw[hd]
def R1(vs:List Vec)(i1:Nat)(s1:Int):Int:=let v2:=(L9 (vs.getD ((IntKind.i64.wrap ((i1:Int)+1)).tmod (vs.length:Int)).toNat default) (vs.getD i1 default));let v3:=(A32 v2);if((decide (s1<0))||(decide (v3<s1)))=true then(v3)else(s1)
def A4d(vs:List Vec):Int:=let v1:=(N0 vs);if v1=false then(0)else(let s1:=itr (R1 vs) vs.length (-1);s1)
theorem C71(vs:List Vec)(hn:vs.length<=1048576):A1 Tryz.prog C79 [A2 2 Vec.enc default vs] [] (sI (A4d vs)) []:=by
 refine en1 hm A4 Tryz.func353 rfl rfl ?_;have:=B5n
 have:=E04
 have:=B9u
 have:=A4d.eq_1 vs
 have:=λi_ s_=>R1.eq_1 vs i_ s_
 have:=λx_ Q_ σ_=> @lp_ Tryz.prog Tryz.f353.ntmps [] x_ Q_ σ_ hm (λ_=>True) (λ_=>True) vs.length (λi_=> [(0, .share,A2 2 Vec.enc default vs),(3, .share,sI (itr (R1 vs) i_ (-1))),(4, .share,sI (i_:Int))]) (λi_=> []) [] trivial (λ_ _=>trivial) (by simp[go_sem]) (by simp[go_sem,A6]) (by simp[go_sem]);exact A4t
def B1i(vs:List Vec)(i:Int):Int:=let v1:=(A1g (IntKind.i64.wrap ((IntKind.i64.wrap ((IntKind.i64.wrap ((vs.getD i.toNat default).X-(vs.getD 0 default).X))*(IntKind.i64.wrap ((vs.getD (IntKind.i64.wrap (i+1)).toNat default).Y-(vs.getD 0 default).Y))))-(IntKind.i64.wrap ((IntKind.i64.wrap ((vs.getD i.toNat default).Y-(vs.getD 0 default).Y))*(IntKind.i64.wrap ((vs.getD (IntKind.i64.wrap (i+1)).toNat default).X-(vs.getD 0 default).X)))))) 65536);v1
theorem E6k(vs:List Vec)(i:Int)(hn:vs.length<=1048576)(h0:1<=i)(h1:i+1<(vs.length:Int)):A1 Tryz.prog E6a [A2 2 Vec.enc default vs,sI i] [] (sI (B1i vs i)) []:=by
 refine en1 hm A4 Tryz.func461 rfl rfl ?_;have:=C2x
 have:=B1i.eq_1 vs i;exact C9
def A4s(vs:List Vec)(i1:Nat)(s1:Int):Int:=let v2:=(B1i vs ((i1+1:Nat):Int));(IntKind.i64.wrap (s1+v2))
def A6a(vs:List Vec):Int:=let v1:=(N0 vs);if v1=false then(0)else(let s1:=itr (A4s vs) (vs.length-2) 0;let v3:=(A1g s1 2);v3)
theorem F08(vs:List Vec)(hn:vs.length<=1048576):A1 Tryz.prog E90 [A2 2 Vec.enc default vs] [] (sI (A6a vs)) []:=by
 refine en1 hm A4 Tryz.func354 rfl rfl ?_;simp only[go_sem];refine A0 (B5n vs (by(assumption))) rfl ?_;generalize hv1:(N0 vs)=v1;simp only[go_sem];by_cases h1:v1=false
 ·rw[if_pos h1];have hd:A6a vs=0:=by(unfold A6a;exact hd_)
  try rw[hd]
 ·rw[if_neg h1];refine A9 hm (ι:= {i:Nat // i<=(vs.length-2)}) (λi=> [(0, .share,A2 2 Vec.enc default vs),(3, .share,sI (itr (A4s vs) i.1 0)),(4, .share,sI ((i.1+1:Nat):Int))]) (λi=> []) (λi=>(vs.length-2)-i.1) ⟨0,by omega⟩ ?_ ?_
  ·refine D6 [] [] ?_;simp only[go_sem,H5];exact A3c
  ·rintro⟨i1,hi1⟩;dsimp only;generalize hs1:itr (A4s vs) i1 0=s1;simp only[go_sem];by_cases h2:(IntKind.i64.wrap (((i1+1:Nat):Int)+1))<(vs.length:Int)
   ·rw[if_pos h2];have hlt1:i1<(vs.length-2):=by(simp only[IntKind.wrap_i64]at h2;omega)
    refine A0 (E6k vs ((i1+1:Nat):Int) (by(assumption)) (by(omega)) (by(omega))) rfl ?_;generalize hv2:(B1i vs ((i1+1:Nat):Int))=v2;simp only[go_sem];have hn:itr (A4s vs) (i1+1) 0=(IntKind.i64.wrap (s1+v2)):=by rw[E4,hs1];(unfold A4s;exact hd_)
    refine A7 ⟨i1+1,by omega⟩ (by show(vs.length-2)-(i1+1)<(vs.length-2)-i1;omega) (D6 [] [] ?_);simp only[go_sem,hn];exact A3c
   ·rw[if_neg h2];have hge:i1=(vs.length-2):=by(simp only[IntKind.wrap_i64]at h2;omega)
    subst hge;refine A0 (C2x s1 2) rfl ?_;generalize hv3:(A1g s1 2)=v3;simp only[go_sem];have hd:A6a vs=v3:=by(unfold A6a;exact hd_)
    try rw[hd]
def A7j(b:Body):Bool:=let v1:=(A5f b.Velocity 16777216);let v3:=(A5f b.Force 536870911);let v9:=(A0u b.Transform);(((((((inR b.ID 1 1099511627776)&&v9)&&(v1&&(inR b.AngularVelocity (-4194304) 4194304)))&&(v3&&(inR b.Torque (-536870911) 536870911)))&&((inR b.LinearDamping 0 65536)&&(inR b.AngularDamping 0 65536)))&&(inR b.GravityScale (-262144) 262144))&&(inR b.IdleSteps 0 1048576))
theorem D8q(b:Body):A1 Tryz.prog D87 [.agg b.enc] [] (sB (A7j b)) []:=by
 refine en1 hm A4 Tryz.func226 rfl rfl ?_;have:=D97
 have:=B7e
 have:=D2u
 have:=A7j.eq_1 b;exact C9
def A5y(b:Body):Bool:=let v2:=(A0u b.Transform);if(((((!(inR b.ID 1 1099511627776))||(!v2))||(!(inR b.Velocity.X (-16777216) 16777216)))||(!(inR b.Velocity.Y (-16777216) 16777216)))||(!(inR b.AngularVelocity (-4194304) 4194304)))=true then(false)else(if(((!(inR b.Force.X (-536870911) 536870911))||(!(inR b.Force.Y (-536870911) 536870911)))||(!(inR b.Torque (-536870911) 536870911)))=true then(false)else(((((inR b.LinearDamping 0 65536)&&(inR b.AngularDamping 0 65536))&&(inR b.GravityScale (-262144) 262144))&&(inR b.IdleSteps 0 1048576))))
theorem E1z(b:Body):A1 Tryz.prog E1j [.agg b.enc] [] (sB (A5y b)) []:=by
 refine en1 hm A4 Tryz.func132 rfl rfl ?_;have:=E5z
 have:=E7y
 have:=A5y.eq_1 b;exact C9
def O5(k:Int):Int×Int:=if(k==1)=true then((0,268435456))else(if(k==2)=true then(((-205888),205888))else(((-268435456),268435456)))
theorem B6j(k:Int):A1 Tryz.prog C9m [sI k] [] (.tup [sI ((O5 k).1),sI ((O5 k).2)]) []:=by refine enT hm A4 Tryz.func361 rfl rfl ?_;have:=O5.eq_1 k;exact C9
def N5(v:Vec)(limit:Int):Bool:=((inR v.X (IntKind.i64.wrap (0-limit)) limit)&&(inR v.Y (IntKind.i64.wrap (0-limit)) limit))
theorem A42(v:Vec)(limit:Int):A1 Tryz.prog C4g [.agg v.enc,sI limit] [] (sB (N5 v limit)) []:=by
 refine en1 hm A4 Tryz.func363 rfl rfl ?_;have:=I8
 have:=N5.eq_1 v limit;exact C9
def A5q(j:Joint):Bool:=if(j.Kind==5)=true then(((j.BodyA==0)&&(inR j.BodyB 1 1099511627776)))else((((inR j.BodyA 1 1099511627776)&&(inR j.BodyB 1 1099511627776))&&(j.BodyA != j.BodyB)))
theorem C7q(j:Joint):A1 Tryz.prog C60 [.agg j.enc] [] (sB (A5q j)) []:=by
 refine en1 hm A4 Tryz.func230 rfl rfl ?_;have:=I8
 have:=A5q.eq_1 j;exact C9
def A45(j:Joint):Bool:=if(j.Kind==3)=true then(let v1:=(A32 j.Axis);(!(inR v1 65520 65552)))else(if(j.Kind==1)=true then((((!((j.Axis.X==0)&&(j.Axis.Y==0)))||j.EnableMotor)||(!j.EnableLimit)))else(if(j.Kind==4)=true then((((!((j.Axis.X==0)&&(j.Axis.Y==0)))||j.EnableMotor)||j.EnableLimit))else(if(j.Kind==5)=true then((((!((j.Axis.X==0)&&(j.Axis.Y==0)))||j.EnableMotor)||j.EnableLimit))else((!((j.Axis.X==0)&&(j.Axis.Y==0)))))))
theorem C55(j:Joint):A1 Tryz.prog C5b [.agg j.enc] [] (sB (A45 j)) []:=by
 refine en1 hm A4 Tryz.func231 rfl rfl ?_;have:=U6
 have:=I8
 have:=A45.eq_1 j;exact C9
def X4(v:Vec)(m:Int):Bool:=((inR v.X (IntKind.i64.wrap (0-m)) m)&&(inR v.Y (IntKind.i64.wrap (0-m)) m))
theorem B0r(v:Vec)(m:Int):A1 Tryz.prog D8d [.agg v.enc,sI m] [] (sB (X4 v m)) []:=by
 refine en1 hm A4 Tryz.func222 rfl rfl ?_;have:=O3
 have:=X4.eq_1 v m;exact C9
def A0r(j:Joint):Bool:=if(((!(inR j.Lower (-268435456) 268435456))||(!(inR j.Upper (-268435456) 268435456)))||(decide (j.Upper<j.Lower)))=true then(false)else(if(j.Kind==1)=true then((decide (0<=j.Lower)))else(((j.Kind != 2)||((decide ((-205888)<=j.Lower))&&(decide (j.Upper<=205888))))))
theorem B7r(j:Joint):A1 Tryz.prog D25 [.agg j.enc] [] (sB (A0r j)) []:=by
 refine en1 hm A4 Tryz.func223 rfl rfl ?_;have:=O3
 have:=A0r.eq_1 j;exact C9
def A5b(a:PairKey)(b:PairKey):Bool:=if(a.BodyA != b.BodyA)=true then((decide (a.BodyA<b.BodyA)))else(if(a.FixtureA != b.FixtureA)=true then((decide (a.FixtureA<b.FixtureA)))else(if(a.BodyB != b.BodyB)=true then((decide (a.BodyB<b.BodyB)))else((decide (a.FixtureB<b.FixtureB)))))
theorem F0v(a:PairKey)(b:PairKey):A1 Tryz.prog F02 [.agg a.enc, .agg b.enc] [] (sB (A5b a b)) []:=by refine en1 hm A4 Tryz.func137 rfl rfl ?_;have:=A5b.eq_1 a b;exact C9
def A2r(v:Vec):Bool:=((inR v.X (-536870911) 536870911)&&(inR v.Y (-536870911) 536870911))
theorem C0w(v:Vec):A1 Tryz.prog D6b [.agg v.enc] [] (sB (A2r v)) []:=by
 refine en1 hm A4 Tryz.func139 rfl rfl ?_;have:=C4o
 have:=A2r.eq_1 v;exact C9
end Go.Abs
end
