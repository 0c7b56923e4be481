/- A part of the proof: contracts of functions that the statement reaches. -/
import Derived.Test.YtchcbiiammkhgaaGreatLF
import Derived.KernelRfl
import Derived.Eval
import Derived.Test.YtchcbiiammkhgaaGreatChecked
set_option linter.unusedSimpArgs false
set_option linter.unusedVariables false
set_option linter.unnecessarySimpa false
set_option maxRecDepth 100000
set_option maxHeartbeats 2000000
noncomputable section
namespace Go.Abs
open Go.Proofs
theorem hm:Tryz.prog.follows .mixedOrders=true:=Tryz.checked.mixed
abbrev dF_ {α:Type} [Inhabited α]:α:=default
theorem st_ {p q:Prop}(h:q)(e:p=q:=by simp only[go_sem,go_sem_proc];rfl):p:=e▸h
abbrev cA_:=D5 Tryz.prog
theorem se_ {p q:Prop}(e:p=q:=by simp only[go_sem,go_sem_proc];rfl)(h:q:=by exact eE_):p:=e▸h
theorem sg_ {p q:Prop}(h:q)(e:p=q:=by simp only[go_sem];rfl):p:=e▸h
theorem sh_ {p q:Prop}(e:p=q:=by simp only[go_sem];rfl)(h:q:=by exact eE_):p:=e▸h
def shL:List (Nat×List Bool):= [(22,[true,true]),(23,[true,true]),(24,[true,true,true,true,true]),(25,[true,true,true,true,true]),(50,[true,true,true]),(51,[true,true,true]),(56,[true,true,true,true]),(57,[true,true,true,true,true,true,true,true,true,true,true,false,true,true,false,true,true,true,true,false,true,true,true,true]),(58,[true,true,true,true,true,true,true,true,true,true,true,false,true,true,false,true,true,true,true,false,true,true,true,true]),(128,[true,true,true,true]),(129,[true,true,true,true]),(189,[true,true,true,true]),(190,[true,true,true,true]),(194,[true,true,true,true,true,true]),(195,[true,true,true,true,true,true]),(207,[true,true,true,true,true]),(208,[true,true,true,true,true]),(220,[true,true,true,true,true]),(221,[true,true,true,true,true]),(298,[true,true,true,true]),(299,[true,true,true,true]),(346,[true,true]),(347,[true,true]),(348,[true,true]),(411,[true,true]),(412,[true,true]),(437,[true,true,true,true,true,true]),(438,[true,true,true,true,true,true]),(440,[true,true,true,true,true]),(441,[true,true,true,true,true]),(524,[true,true,true,true]),(525,[true,true,true,true]),(533,[true,true,true]),(534,[true,true,true]),(550,[true,true,true,true]),(551,[true,true,true,true]),(568,[true,true,true,true,true]),(569,[true,true,true,true,true])]
theorem A6:okE Tryz.prog shL=true:=by kernel_rfl
abbrev B85:Nat:=4
abbrev E14:Nat:=19
abbrev L6:Nat:=20
abbrev A9y:Nat:=21
abbrev A6k:Nat:=22
abbrev A9z:Nat:=23
abbrev C16:Nat:=24
abbrev A9o:Nat:=28
abbrev A6l:Nat:=30
abbrev A1m:Nat:=33
abbrev D7g:Nat:=47
abbrev C8r:Nat:=48
abbrev E6q:Nat:=50
abbrev E41:Nat:=52
abbrev B54:Nat:=53
abbrev A4n:Nat:=57
abbrev D9v:Nat:=58
abbrev A2e:Nat:=59
abbrev B8b:Nat:=60
abbrev B5o:Nat:=61
abbrev C3b:Nat:=62
abbrev E13:Nat:=63
abbrev A8u:Nat:=64
abbrev B11:Nat:=65
abbrev B10:Nat:=66
abbrev D9o:Nat:=67
abbrev A4v:Nat:=69
abbrev B37:Nat:=72
abbrev C6k:Nat:=73
abbrev C0b:Nat:=85
abbrev F23:Nat:=86
abbrev C9u:Nat:=87
abbrev C9v:Nat:=88
abbrev C42:Nat:=89
abbrev C9n:Nat:=90
abbrev C6l:Nat:=91
abbrev C3f:Nat:=92
abbrev C3h:Nat:=93
abbrev E6j:Nat:=94
abbrev B98:Nat:=95
abbrev D6s:Nat:=96
abbrev D6r:Nat:=97
abbrev C4r:Nat:=98
abbrev E6p:Nat:=99
abbrev C8o:Nat:=104
abbrev D9u:Nat:=106
abbrev B8x:Nat:=107
abbrev E19:Nat:=108
abbrev B87:Nat:=109
abbrev C50:Nat:=110
abbrev B5u:Nat:=111
abbrev D47:Nat:=112
abbrev C9b:Nat:=113
abbrev E9y:Nat:=114
abbrev C8q:Nat:=115
abbrev C55:Nat:=116
abbrev E4w:Nat:=117
abbrev E18:Nat:=118
abbrev D1e:Nat:=119
abbrev A54:Nat:=120
abbrev D49:Nat:=121
abbrev C4x:Nat:=122
abbrev D9t:Nat:=123
abbrev D6z:Nat:=124
abbrev D6y:Nat:=125
abbrev D51:Nat:=126
abbrev C9q:Nat:=127
abbrev D9i:Nat:=140
abbrev D63:Nat:=141
abbrev C9t:Nat:=142
abbrev D7f:Nat:=143
abbrev C43:Nat:=144
abbrev C23:Nat:=145
abbrev B5p:Nat:=146
abbrev C1m:Nat:=147
abbrev A91:Nat:=148
abbrev C41:Nat:=149
abbrev E43:Nat:=150
abbrev B7a:Nat:=151
abbrev C52:Nat:=152
abbrev C22:Nat:=153
abbrev D6t:Nat:=154
abbrev D0t:Nat:=155
abbrev C89:Nat:=156
abbrev C9a:Nat:=157
abbrev D60:Nat:=158
abbrev B1c:Nat:=159
abbrev B67:Nat:=160
abbrev D7a:Nat:=161
abbrev C9m:Nat:=162
abbrev C4w:Nat:=166
abbrev D9e:Nat:=168
abbrev E16:Nat:=169
abbrev D9x:Nat:=170
abbrev D7e:Nat:=171
abbrev D1j:Nat:=172
abbrev C9s:Nat:=173
abbrev C54:Nat:=174
abbrev C9c:Nat:=175
abbrev D7c:Nat:=177
abbrev C14:Nat:=178
abbrev C56:Nat:=179
abbrev D4u:Nat:=180
abbrev D1f:Nat:=181
abbrev B97:Nat:=182
abbrev D0n:Nat:=183
abbrev C3k:Nat:=184
abbrev D1d:Nat:=185
abbrev E4y:Nat:=186
abbrev D7b:Nat:=187
abbrev E10:Nat:=188
abbrev D1c:Nat:=189
abbrev B13:Nat:=190
abbrev A4c:Nat:=191
abbrev D46:Nat:=192
abbrev C4p:Nat:=193
abbrev D9h:Nat:=194
abbrev C40:Nat:=195
abbrev C9e:Nat:=196
abbrev F2x:Nat:=197
abbrev D07:Nat:=198
abbrev D5a:Nat:=199
abbrev B12:Nat:=200
abbrev C6i:Nat:=201
abbrev A9q:Nat:=202
abbrev A1j:Nat:=203
abbrev D0s:Nat:=204
abbrev D0m:Nat:=205
abbrev D0o:Nat:=206
abbrev C6h:Nat:=207
abbrev B5t:Nat:=208
abbrev E15:Nat:=209
abbrev E6o:Nat:=210
abbrev D0q:Nat:=211
abbrev C9d:Nat:=212
abbrev D0g:Nat:=213
abbrev B1m:Nat:=215
abbrev C9p:Nat:=216
abbrev E1y:Nat:=226
abbrev C20:Nat:=227
abbrev D4v:Nat:=228
abbrev C29:Nat:=229
abbrev C9g:Nat:=230
abbrev C57:Nat:=231
abbrev C1n:Nat:=232
abbrev B5v:Nat:=233
abbrev D5i:Nat:=234
abbrev B1l:Nat:=235
abbrev A92:Nat:=236
abbrev D0j:Nat:=237
abbrev D4w:Nat:=238
abbrev A8v:Nat:=239
abbrev B3f:Nat:=240
abbrev D09:Nat:=241
abbrev C4n:Nat:=242
abbrev E9x:Nat:=243
abbrev B78:Nat:=244
abbrev C24:Nat:=245
abbrev B9a:Nat:=246
abbrev B34:Nat:=247
abbrev D68:Nat:=248
abbrev D64:Nat:=249
abbrev C1k:Nat:=250
abbrev B30:Nat:=251
abbrev D0v:Nat:=252
abbrev C1j:Nat:=253
abbrev F21:Nat:=254
abbrev B31:Nat:=255
abbrev B1z:Nat:=256
abbrev B96:Nat:=257
abbrev D61:Nat:=258
abbrev C4y:Nat:=259
abbrev B35:Nat:=260
abbrev E9z:Nat:=264
abbrev D5b:Nat:=268
abbrev C6m:Nat:=269
abbrev D69:Nat:=270
abbrev E45:Nat:=271
abbrev F22:Nat:=272
abbrev D03:Nat:=273
abbrev D1i:Nat:=274
abbrev E6f:Nat:=275
abbrev D9f:Nat:=276
abbrev D4s:Nat:=277
abbrev F20:Nat:=278
abbrev C4t:Nat:=279
abbrev D9y:Nat:=280
abbrev A2l:Nat:=281
abbrev D62:Nat:=282
abbrev E47:Nat:=283
abbrev C6n:Nat:=284
abbrev B3g:Nat:=285
abbrev B7c:Nat:=286
abbrev B3h:Nat:=287
abbrev B7e:Nat:=288
abbrev D5h:Nat:=289
abbrev C4z:Nat:=290
abbrev D7h:Nat:=291
abbrev D44:Nat:=292
abbrev D9m:Nat:=293
abbrev A9x:Nat:=295
abbrev A6j:Nat:=296
abbrev E6s:Nat:=297
abbrev E9v:Nat:=298
abbrev E9t:Nat:=299
abbrev E9w:Nat:=300
abbrev D0x:Nat:=301
abbrev C53:Nat:=302
abbrev D9r:Nat:=303
abbrev D65:Nat:=304
abbrev E91:Nat:=305
abbrev D5g:Nat:=306
abbrev C4o:Nat:=307
abbrev D0h:Nat:=308
abbrev C26:Nat:=309
abbrev B84:Nat:=310
abbrev E90:Nat:=311
abbrev C27:Nat:=312
abbrev C1i:Nat:=313
abbrev D5c:Nat:=314
abbrev C88:Nat:=315
abbrev C9o:Nat:=316
abbrev B83:Nat:=317
abbrev D0l:Nat:=318
abbrev D9k:Nat:=319
abbrev C4u:Nat:=320
abbrev D5e:Nat:=321
abbrev D1h:Nat:=322
abbrev E46:Nat:=323
abbrev E9q:Nat:=324
abbrev D4x:Nat:=325
abbrev C1s:Nat:=326
abbrev E17:Nat:=327
abbrev A9p:Nat:=328
abbrev B36:Nat:=329
abbrev B1e:Nat:=330
abbrev C6j:Nat:=331
abbrev B1f:Nat:=332
abbrev A5n:Nat:=333
abbrev B68:Nat:=334
abbrev C25:Nat:=335
abbrev D6v:Nat:=336
abbrev C4q:Nat:=337
abbrev C51:Nat:=338
abbrev B1g:Nat:=339
abbrev C1r:Nat:=340
abbrev C1q:Nat:=341
abbrev C0a:Nat:=342
abbrev B8e:Nat:=343
abbrev C3j:Nat:=344
abbrev D9j:Nat:=345
abbrev C87:Nat:=346
abbrev E1x:Nat:=357
abbrev E4v:Nat:=358
abbrev D5f:Nat:=359
abbrev E4u:Nat:=360
abbrev D0r:Nat:=361
abbrev D9n:Nat:=362
abbrev C58:Nat:=363
abbrev B4a:Nat:=364
abbrev D0i:Nat:=365
abbrev D9s:Nat:=366
abbrev F2y:Nat:=367
abbrev C1o:Nat:=368
abbrev B69:Nat:=369
abbrev B77:Nat:=370
abbrev C21:Nat:=371
abbrev E6l:Nat:=374
abbrev D40:Nat:=375
abbrev D06:Nat:=376
abbrev B89:Nat:=377
abbrev B5s:Nat:=378
abbrev D05:Nat:=379
abbrev D00:Nat:=380
abbrev C3a:Nat:=381
abbrev E12:Nat:=382
abbrev C1l:Nat:=383
abbrev C59:Nat:=384
abbrev D0u:Nat:=385
abbrev D9q:Nat:=386
abbrev B1k:Nat:=387
abbrev C9l:Nat:=388
abbrev D66:Nat:=389
abbrev B86:Nat:=390
abbrev D9p:Nat:=391
abbrev B1d:Nat:=392
abbrev D9w:Nat:=393
abbrev E2a:Nat:=394
abbrev D1b:Nat:=395
abbrev E6m:Nat:=400
abbrev E4z:Nat:=403
abbrev C3l:Nat:=404
abbrev C6g:Nat:=405
abbrev D6x:Nat:=406
abbrev D6n:Nat:=407
abbrev D9g:Nat:=408
abbrev E6g:Nat:=409
abbrev E6h:Nat:=410
abbrev B8c:Nat:=411
abbrev B39:Nat:=412
abbrev C85:Nat:=413
abbrev B76:Nat:=414
abbrev D6w:Nat:=415
abbrev E9u:Nat:=416
abbrev C28:Nat:=417
abbrev B8a:Nat:=418
abbrev D7d:Nat:=419
abbrev B95:Nat:=420
abbrev C1h:Nat:=421
abbrev B66:Nat:=422
abbrev C4v:Nat:=423
abbrev C6e:Nat:=424
abbrev C6d:Nat:=425
abbrev C4s:Nat:=426
abbrev C6f:Nat:=427
abbrev D45:Nat:=428
abbrev C9i:Nat:=429
abbrev C9f:Nat:=430
abbrev C9j:Nat:=431
abbrev D01:Nat:=432
abbrev C15:Nat:=433
abbrev C6o:Nat:=434
abbrev E6r:Nat:=435
abbrev B79:Nat:=436
abbrev E6n:Nat:=437
abbrev B5n:Nat:=438
abbrev B88:Nat:=439
abbrev D08:Nat:=440
abbrev D0y:Nat:=441
abbrev D0w:Nat:=442
abbrev D4t:Nat:=443
abbrev E9p:Nat:=444
abbrev E9r:Nat:=445
abbrev D6o:Nat:=446
abbrev E6i:Nat:=447
abbrev D0p:Nat:=448
abbrev D6u:Nat:=449
abbrev E44:Nat:=450
abbrev D41:Nat:=451
abbrev D42:Nat:=452
abbrev B99:Nat:=453
abbrev B8f:Nat:=454
abbrev D4y:Nat:=455
abbrev D6p:Nat:=456
abbrev C9r:Nat:=463
abbrev E4t:Nat:=464
abbrev A90:Nat:=465
abbrev C1p:Nat:=466
abbrev C8p:Nat:=467
abbrev B7b:Nat:=469
abbrev A9n:Nat:=470
abbrev C3i:Nat:=481
abbrev C6c:Nat:=482
abbrev E42:Nat:=483
abbrev D04:Nat:=484
abbrev C3d:Nat:=485
abbrev E40:Nat:=486
abbrev C3c:Nat:=487
abbrev A2k:Nat:=488
abbrev D67:Nat:=489
abbrev F2z:Nat:=490
abbrev D02:Nat:=491
abbrev E4x:Nat:=492
abbrev E6k:Nat:=510
abbrev D9l:Nat:=511
abbrev B94:Nat:=512
abbrev C9h:Nat:=513
abbrev C6a:Nat:=514
abbrev C6b:Nat:=515
abbrev B38:Nat:=516
abbrev B3e:Nat:=517
abbrev E9s:Nat:=518
abbrev C86:Nat:=519
abbrev D1g:Nat:=520
abbrev D1a:Nat:=521
abbrev D43:Nat:=522
abbrev E11:Nat:=523
abbrev D0k:Nat:=524
abbrev D4z:Nat:=525
abbrev D48:Nat:=540
abbrev C9k:Nat:=541
abbrev D6q:Nat:=542
abbrev D0z:Nat:=549
abbrev B7f:Nat:=550
abbrev B7d:Nat:=551
abbrev C3g:Nat:=552
abbrev B1y:Nat:=553
abbrev D5d:Nat:=554
abbrev E1z:Nat:=567
abbrev B8d:Nat:=570
abbrev C3e:Nat:=571
end Go.Abs
end
noncomputable section
namespace Go.Abs
open Go.Proofs
open Api
theorem B7t(l:List cI)(hl:l.length<=1048576):cA_ D09 [A4 2 cI.enc dF_ l] [] (.sl 1 0 l.length l.length) [(1, .arr 2 (A9 cI.enc dF_ l))]:=by
 by_cases hn:l= []
 ·subst hn;refine D5.nil_split (g:=I8 cI.enc dF_ ([]:List cI)) [] [] ?_ (λa c=> ?_)
  ·refine I7 hm A6 Tryz.func241 rfl rfl (sg_ ?_);refine B6 [.eZ] [] [1] ?_;simp only[go_sem]
  ·refine I7 hm A6 Tryz.func241 rfl rfl (sg_ ?_);refine⟨by simp[maxLen],?_⟩;refine B6 [.cA] [(1,96)] [] (sg_ ?_);exact⟨rfl,rfl,λi hi=>absurd hi (by simp)⟩
 ·have hpos:0<l.length:=List.length_pos_iff.2 hn
  refine I7 hm A6 Tryz.func241 rfl rfl (sg_ ?_);refine⟨hpos,⟨by omega,by simp only[maxLen];omega⟩,?_⟩;refine B6 [.cA] [(1,96)] [] ?_;simp only[go_sem]
theorem A8a(l:List cO)(hl:l.length<=1048576):cA_ B7a [A4 6 cO.enc dF_ l] [] (.sl 1 0 l.length l.length) [(1, .arr 6 (A9 cO.enc dF_ l))]:=by
 by_cases hn:l= []
 ·subst hn;refine D5.nil_split (g:=I8 cO.enc dF_ ([]:List cO)) [] [] ?_ (λa c=> ?_)
  ·refine I7 hm A6 Tryz.func151 rfl rfl (sg_ ?_);refine B6 [.eZ] [] [1] ?_;simp only[go_sem]
  ·refine I7 hm A6 Tryz.func151 rfl rfl (sg_ ?_);refine⟨by simp[maxLen],?_⟩;refine B6 [.cA] [(1,96)] [] (sg_ ?_);exact⟨rfl,rfl,λi hi=>absurd hi (by simp)⟩
 ·have hpos:0<l.length:=List.length_pos_iff.2 hn
  refine I7 hm A6 Tryz.func151 rfl rfl (sg_ ?_);refine⟨hpos,⟨by omega,by simp only[maxLen];omega⟩,?_⟩;refine B6 [.cA] [(1,96)] [] ?_;simp only[go_sem]
theorem A9k(l:List cF)(hl:l.length<=1048576):cA_ C9n [A4 20 cF.enc dF_ l] [] (.sl 1 0 l.length l.length) [(1, .arr 20 (A9 cF.enc dF_ l))]:=by
 by_cases hn:l= []
 ·subst hn;refine D5.nil_split (g:=I8 cF.enc dF_ ([]:List cF)) [] [] ?_ (λa c=> ?_)
  ·refine I7 hm A6 Tryz.func90 rfl rfl (sg_ ?_);refine B6 [.eZ] [] [1] ?_;simp only[go_sem]
  ·refine I7 hm A6 Tryz.func90 rfl rfl (sg_ ?_);refine⟨by simp[maxLen],?_⟩;refine B6 [.cA] [(1,96)] [] (sg_ ?_);exact⟨rfl,rfl,λi hi=>absurd hi (by simp)⟩
 ·have hpos:0<l.length:=List.length_pos_iff.2 hn
  refine I7 hm A6 Tryz.func90 rfl rfl (sg_ ?_);refine⟨hpos,⟨by omega,by simp only[maxLen];omega⟩,?_⟩;refine B6 [.cA] [(1,96)] [] ?_;simp only[go_sem]
theorem A8t(l:List cG)(hl:l.length<=1048576):cA_ C6l [A4 24 cG.enc dF_ l] [] (.sl 1 0 l.length l.length) [(1, .arr 24 (A9 cG.enc dF_ l))]:=by
 by_cases hn:l= []
 ·subst hn;refine D5.nil_split (g:=I8 cG.enc dF_ ([]:List cG)) [] [] ?_ (λa c=> ?_)
  ·refine I7 hm A6 Tryz.func91 rfl rfl (sg_ ?_);refine B6 [.eZ] [] [1] ?_;simp only[go_sem]
  ·refine I7 hm A6 Tryz.func91 rfl rfl (sg_ ?_);refine⟨by simp[maxLen],?_⟩;refine B6 [.cA] [(1,96)] [] (sg_ ?_);exact⟨rfl,rfl,λi hi=>absurd hi (by simp)⟩
 ·have hpos:0<l.length:=List.length_pos_iff.2 hn
  refine I7 hm A6 Tryz.func91 rfl rfl (sg_ ?_);refine⟨hpos,⟨by omega,by simp only[maxLen];omega⟩,?_⟩;refine B6 [.cA] [(1,96)] [] ?_;simp only[go_sem]
theorem B2j(l:List cY)(hl:l.length<=1048576):cA_ C3f [A4 7 cY.enc dF_ l] [] (.sl 1 0 l.length l.length) [(1, .arr 7 (A9 cY.enc dF_ l))]:=by
 by_cases hn:l= []
 ·subst hn;refine D5.nil_split (g:=I8 cY.enc dF_ ([]:List cY)) [] [] ?_ (λa c=> ?_)
  ·refine I7 hm A6 Tryz.func92 rfl rfl (sg_ ?_);refine B6 [.eZ] [] [1] ?_;simp only[go_sem]
  ·refine I7 hm A6 Tryz.func92 rfl rfl (sg_ ?_);refine⟨by simp[maxLen],?_⟩;refine B6 [.cA] [(1,96)] [] (sg_ ?_);exact⟨rfl,rfl,λi hi=>absurd hi (by simp)⟩
 ·have hpos:0<l.length:=List.length_pos_iff.2 hn
  refine I7 hm A6 Tryz.func92 rfl rfl (sg_ ?_);refine⟨hpos,⟨by omega,by simp only[maxLen];omega⟩,?_⟩;refine B6 [.cA] [(1,96)] [] ?_;simp only[go_sem]
theorem B2k(l:List cR)(hl:l.length<=1048576):cA_ C3h [A4 4 cR.enc dF_ l] [] (.sl 1 0 l.length l.length) [(1, .arr 4 (A9 cR.enc dF_ l))]:=by
 by_cases hn:l= []
 ·subst hn;refine D5.nil_split (g:=I8 cR.enc dF_ ([]:List cR)) [] [] ?_ (λa c=> ?_)
  ·refine I7 hm A6 Tryz.func93 rfl rfl (sg_ ?_);refine B6 [.eZ] [] [1] ?_;simp only[go_sem]
  ·refine I7 hm A6 Tryz.func93 rfl rfl (sg_ ?_);refine⟨by simp[maxLen],?_⟩;refine B6 [.cA] [(1,96)] [] (sg_ ?_);exact⟨rfl,rfl,λi hi=>absurd hi (by simp)⟩
 ·have hpos:0<l.length:=List.length_pos_iff.2 hn
  refine I7 hm A6 Tryz.func93 rfl rfl (sg_ ?_);refine⟨hpos,⟨by omega,by simp only[maxLen];omega⟩,?_⟩;refine B6 [.cA] [(1,96)] [] ?_;simp only[go_sem]
def Shape.sm(s:Shape):Prop:=s.cJ.length<=1048576
def dB.sm(f:dB):Prop:=Shape.sm f.Shape
def cF.sm(b:cF):Prop:=b.cK.length<=1048576/\ ∀f∈b.cK,dB.sm f
def cL.sm(m:cL):Prop:=m.cP.length<=1048576
def Wsm(w:Api.World):Prop:=w.cC.length<=1048576/\w.cD.length<=1048576/\w.cB.length<=1048576/\w.cT.length<=1048576/\(∀b∈w.cC,cF.sm b)/\ ∀c∈w.cB,cL.sm c.cL
theorem E5r(s:Shape)(h:Shape.sm s):cA_ E43 [.agg s.enc] [] (.agg s.enc) []:=by refine M3 8 [(2,some (some 3))] hm A6 Tryz.func150 rfl (sg_ ?_);refine B5 [false] [(1,96)] (B7t s.cJ h) (by simp) (by simp) (by simp) (by simp) ?_;simp only[go_sem]
theorem B3a(s:cL)(h:cL.sm s):cA_ B98 [.agg s.enc] [] (.agg s.enc) []:=by refine M3 8 [(2,some (some 3))] hm A6 Tryz.func95 rfl (sg_ ?_);refine B5 [false] [(1,96)] (A8a s.cP h) (by simp) (by simp) (by simp) (by simp) ?_;simp only[go_sem]
theorem A4t(b:cF)(h:cF.sm b):cA_ E6j [.agg b.enc] [] (.agg b.enc) []:=by
 refine M3 25 [(2,some (some 20))] hm A6 Tryz.func94 rfl (sg_ ?_);refine B1 hm (ι:= {i:Nat // i<=b.cK.length}) (λi=> [(1, .cA, .ptr 32 0 0 1),(2, .cA, .ptr 48 0 0 1),(3,if i.1=0 then .eZ else .cA, .sl 1 0 i.1 i.1),(7, .cA,A4 10 dB.enc dF_ b.cK),(8, .cA,sI b.cK.length),(9, .cA,sI i.1)])
  (λi=> [(32, .box b.enc),(48, .box cF.zero),(1, .arr 10 (A9 dB.enc dF_ (b.cK.take i.1)))]) (λi=>b.cK.length-i.1) ⟨0,by omega⟩ ?_ ?_
 ·refine B0 [] [1] ?_;simp only[go_sem]
 ·rintro⟨i,hi⟩;refine sg_ ?_;split
  ·rename_i hlt;have hlt:i<b.cK.length:=by omega
   refine⟨⟨by omega,by omega⟩,?_⟩;refine A0 (E5r (b.cK.getD i dF_).Shape (h.2 _ (B8 _ hlt))) rfl (sg_ ?_);have hb:=h.1;refine⟨ok_,?_⟩;refine A8 ⟨i+1,by omega⟩ (by show b.cK.length-(i+1)<b.cK.length-i;omega) (E0 [] [] ?_);refine sg_ ?_;exact⟨by omega,(by rw[IntKind.wrap_i64];omega),A1g (b.cK.getD i dF_) rfl (L5 dF_ hlt)⟩
  ·rename_i hge;obtain rfl:i=b.cK.length:=by omega
   simp only[List.take_length,Nat.min_self,go_sem]
def G4a(w:Api.World)(a b c d:Nat):AV:= .agg [sI w.cM.dZ,sI w.cM.eG.X,sI w.cM.eG.Y,sI w.cM.eL,sI w.cM.eD,
 .sl a 0 w.cC.length w.cC.length, .sl b 0 w.cD.length w.cD.length, .sl c 0 w.cB.length w.cB.length, .sl d 0 w.cT.length w.cT.length,sI w.dJ,sI w.eK]
def D7j(w:Api.World)(a b c d:Nat):List (Nat×A7):= [(a, .arr 20 (A9 cF.enc dF_ w.cC)),(b, .arr 24 (A9 cG.enc dF_ w.cD)),(c, .arr 7 (A9 cY.enc dF_ w.cB)),(d, .arr 4 (A9 cR.enc dF_ w.cT))]
attribute [go_sem] G4a D7j
theorem C8e {α:Type}(l:List α)(i:Nat)(d:α)(h:i<l.length):l.set i (l.getD i d)=l:=by simp[List.getD,h]
theorem U3(w:Api.World)(h:Wsm w):cA_ C8r [.agg w.enc] [] (G4a w 1 2 3 4) (D7j w 1 2 3 4):=by
 obtain⟨h1,h2,h3,h4,h5,h6⟩:=h;refine C6y 56 [(2,some (some 11))] hm A6 Tryz.func48 rfl (sg_ ?_);refine B5 [false] [(1,1)] (A9k w.cC h1) (by simp) (by simp) (by simp) (by simp) (sg_ ?_);refine B5 [false] [(1,2)] (A8t w.cD h2) (by simp) (by simp) (by simp) (by simp) (sg_ ?_);refine B5 [false] [(1,3)] (B2j w.cB h3) (by simp) (by simp) (by simp) (by simp) (sg_ ?_);refine B5 [false] [(1,4)] (B2k w.cT h4) (by simp) (by simp) (by simp) (by simp) (sg_ ?_);refine B1 hm (ι:= {i:Nat // i<=w.cC.length}) (λi=> [(1, .cA, .ptr 32 0 0 1),(2, .cA, .ptr 48 0 0 1),(24, .cA, .sl 1 0 w.cC.length w.cC.length),(25, .cA,sI w.cC.length),(26, .cA,sI i.1)])
  (λi=>(32, .box [sI w.cM.dZ,sI w.cM.eG.X,sI w.cM.eG.Y,sI w.cM.eL,sI w.cM.eD,
 .sl 1 0 w.cC.length w.cC.length, .sl 2 0 w.cD.length w.cD.length, .sl 3 0 w.cB.length w.cB.length, .sl 4 0 w.cT.length w.cT.length,sI w.dJ,sI w.eK])::(48, .box World.zero)::D7j w 1 2 3 4) (λi=>w.cC.length-i.1) ⟨0,by omega⟩ ?_ ?_
 ·refine B0 [] [] ?_;simp only[go_sem]
 ·rintro⟨i,hi⟩;refine sg_ ?_;split
  ·rename_i hlt;have hlt:i<w.cC.length:=by omega
   refine⟨⟨by omega,by omega⟩,?_⟩;refine A0 (A4t (w.cC.getD i dF_) (h5 _ (B8 _ hlt))) rfl (sg_ ?_);refine⟨ok_,?_⟩;refine A8 ⟨i+1,by omega⟩ (by show w.cC.length-(i+1)<w.cC.length-i;omega) (E0 [] [] ?_);refine sg_ ?_;exact⟨(by rw[IntKind.wrap_i64];omega),A2y (w.cC.getD i dF_) hlt rfl (C8e _ _ _ hlt)⟩
  ·rename_i hge;obtain rfl:i=w.cC.length:=by omega
   refine B1 hm (ι:= {i:Nat // i<=w.cB.length}) (λi=> [(1, .cA, .ptr 32 0 0 1),(2, .cA, .ptr 48 0 0 1),(39, .cA, .sl 3 0 w.cB.length w.cB.length),(40, .cA,sI w.cB.length),(41, .cA,sI i.1)])
    (λi=>(32, .box [sI w.cM.dZ,sI w.cM.eG.X,sI w.cM.eG.Y,sI w.cM.eL,sI w.cM.eD,
 .sl 1 0 w.cC.length w.cC.length, .sl 2 0 w.cD.length w.cD.length, .sl 3 0 w.cB.length w.cB.length, .sl 4 0 w.cT.length w.cT.length,sI w.dJ,sI w.eK])::(48, .box World.zero)::D7j w 1 2 3 4) (λi=>w.cB.length-i.1) ⟨0,by omega⟩ ?_ ?_
   ·refine B0 [] [] ?_;simp only[go_sem]
   ·rintro⟨i,hi⟩;refine sg_ ?_;split
    ·rename_i hlt;have hlt:i<w.cB.length:=by omega
     refine⟨⟨by omega,by omega⟩,?_⟩;refine A0 (B3a (w.cB.getD i dF_).cL (h6 _ (B8 _ hlt))) rfl (sg_ ?_);refine⟨ok_,?_⟩;refine A8 ⟨i+1,by omega⟩ (by show w.cB.length-(i+1)<w.cB.length-i;omega) (E0 [] [] ?_);refine sg_ ?_;exact⟨(by rw[IntKind.wrap_i64];omega),A2y (w.cB.getD i dF_) hlt rfl (C8e _ _ _ hlt)⟩
    ·rename_i hge;obtain rfl:i=w.cB.length:=by omega
     refine B6 [.cA] [] [] ?_;simp only[go_sem]
theorem D6b {α:Type}{l m:List α}{i:Nat}(d:α)(h:l.take i=m.take i)(hl:i<l.length)(hm:i<m.length)(he:l.getD i d=m.getD i d):l.take (i+1)=m.take (i+1):=by rw[L5 d hl,L5 d hm,h,he]
theorem F13 {α:Type}{l m:List α}(hlen:l.length=m.length)(h:l.take l.length=m.take l.length):l=m:=by rw[List.take_length]at h;rw[hlen,List.take_length]at h;exact h
theorem G1y {α:Type}{l m:List α}{i:Nat}(d:α)(h:l.getD i d≠m.getD i d):l≠m:=λe=>h (by rw[e])
theorem F8t {α:Type}{l m:List α}(h:l.length≠m.length):l≠m:=λe=>h (by rw[e])
theorem cI.beq(x y:cI):(x.X==y.X&&x.Y==y.Y)=decide (x=y):=by cases x;cases y;rw[Bool.eq_iff_iff];simp
def sat(x:Int):Int:=if x>536870911 then 536870911 else if x < -536870911 then -536870911 else x
theorem Z1(x:Int): -536870911<=sat x/\sat x<=536870911:=by unfold sat;split <;> (try split) <;> omega
def C4h(v:cI):cI:=⟨sat v.X,sat v.Y⟩
theorem L3(x:Int):cA_ D6x [sI x] [] (sI (sat x)) []:=by
 refine en1 hm A6 Tryz.func406 rfl rfl (sg_ ?_);unfold sat
 (repeat' split) <;> omega
theorem A1i(v:cI):cA_ D9w [.agg v.enc] [] (.agg (C4h v).enc) []:=by refine M3 10 [(2,some (some 2))] hm A6 Tryz.func393 rfl (sg_ ?_);refine A0 (L3 v.X) rfl (sg_ ?_);refine A0 (L3 v.Y) rfl ?_;simp only[C4h,go_sem]
def B4k(a b:cI):Int:=(sat b.X-sat a.X)*(sat b.X-sat a.X)+(sat b.Y-sat a.Y)*(sat b.Y-sat a.Y)
theorem E9d {x m:Int}(h1: -m<=x)(h2:x<=m):0<=x*x/\x*x<=m*m:=by
 have h0:0<=m:=by omega
 constructor
 ·rcases Int.le_total 0 x with h |h
  ·exact Int.mul_nonneg h h
  ·exact Int.mul_nonneg_of_nonpos_of_nonpos h h
 ·rcases Int.le_total 0 x with h |h
  ·exact Int.mul_le_mul h2 h2 h h0
  ·have:=Int.mul_le_mul (show -x<=m by omega) (show -x<=m by omega) (show 0<= -x by omega) h0
   rwa[Int.neg_mul_neg]at this
theorem Y2(a b:cI):cA_ C3l [.agg a.enc, .agg b.enc] [] (sI (B4k a b)) []:=by
 refine en1 hm A6 Tryz.func404 rfl rfl (sg_ ?_);refine A0 (A1i a) rfl (sg_ ?_);refine A0 (A1i b) rfl ?_;simp only[C4h,go_sem];have a1:=Z1 a.X;have a2:=Z1 a.Y;have b1:=Z1 b.X;have b2:=Z1 b.Y
 have w1:IntKind.i64.wrap (sat b.X-sat a.X)=sat b.X-sat a.X:=by rw[IntKind.wrap_i64];omega
 have w2:IntKind.i64.wrap (sat b.Y-sat a.Y)=sat b.Y-sat a.Y:=by rw[IntKind.wrap_i64];omega
 have h1:=E9d (x:=sat b.X-sat a.X) (m:=1073741822) (by omega) (by omega)
 have h2:=E9d (x:=sat b.Y-sat a.Y) (m:=1073741822) (by omega) (by omega);rw[w1,w2];unfold B4k;generalize(sat b.X-sat a.X)*(sat b.X-sat a.X)=p at*;generalize(sat b.Y-sat a.Y)*(sat b.Y-sat a.Y)=q at*;simp only[IntKind.wrap_i64];omega
def D8i(n:Nat):Nat->Nat->Nat
 |0,r=>r
 |k+1,r=>D8i n k (if(r+2^k)*(r+2^k)<=n then r+2^k else r)
def isq(n:Int):Int:=if n<0\/n>4611686018427387904 then 0 else D8i n.toNat 32 0
def F3c:Nat->Int
 |0=>0
 |k+1=>((2^k:Nat):Int)
theorem G5p {r k:Nat}(hr:2^(k+1)∣r)(hlt:r<4294967296)(hk:k<32):IntKind.i64.wrap (((BitVec.ofInt 64 (r:Int) ||| BitVec.ofInt 64 ((2^k:Nat):Int)).toNat:Nat):Int)=((r+2^k:Nat):Int):=by
 obtain⟨q,rfl⟩:=hr;have hp:2^k<2^(k+1):=Nat.pow_lt_pow_right (by omega) (by omega)
 have hp2:2^k<=2^31:=Nat.pow_le_pow_right (by omega) (by omega)
 have e:(BitVec.ofInt 64 ((2^(k+1)*q:Nat):Int) ||| BitVec.ofInt 64 ((2^k:Nat):Int)).toNat=2^(k+1)*q+2^k:=by rw[BitVec.toNat_or,BitVec.ofInt_natCast,BitVec.ofInt_natCast,BitVec.toNat_ofNat,BitVec.toNat_ofNat,Nat.mod_eq_of_lt (by omega),Nat.mod_eq_of_lt (by omega),Nat.two_pow_add_eq_or_of_lt hp]
 rw[e,IntKind.wrap_i64];omega
theorem G1x {n:Int}(h:n<0\/n>4611686018427387904):isq n=0:=by unfold isq;rw[if_pos h]
theorem F8q {n:Int}(h: ¬(n<0\/n>4611686018427387904)):isq n=D8i n.toNat 32 0:=by unfold isq;rw[if_neg h]
theorem F7x(k:Nat):((2^k:Nat):Int).fdiv (2^min 1 64)=F3c k:=by
 rw[Int.fdiv_eq_ediv_of_nonneg _ (by decide)];cases k with
 |zero=>decide
 |succ k=>show((2^(k+1):Nat):Int) / 2=((2^k:Nat):Int);rw[Nat.pow_succ];omega
theorem F8r {r k:Nat}(hr:2^(k+1)∣r)(hlt:r+2^(k+1)<=4294967296):2^k∣r/\r+2^k<=4294967296/\2^k∣r+2^k/\r+2^k+2^k<=4294967296/\0<2^k:=by
 have hp:2^(k+1)=2^k*2:=Nat.pow_succ 2 k
 have h1:2^k∣r:=Nat.dvd_trans ⟨2,hp⟩ hr
 have h0:0<2^k:=Nat.two_pow_pos k;exact⟨h1,by omega,Nat.dvd_add h1 (Nat.dvd_refl _),by omega,h0⟩
theorem B2w(n:Int):cA_ E4z [sI n] [] (sI (isq n)) []:=by
 refine en1 hm A6 Tryz.func403 rfl rfl (sg_ ?_);by_cases hn:n<0\/n>4611686018427387904
 ·rw[if_pos (by by_cases h:n<0;rw[if_pos h];rw[if_neg h];exact decide_eq_true (by omega)),G1x hn]
 ·rw[if_neg (by rw[if_neg (by omega),decide_eq_false (by omega)];simp),F8q hn];refine B1 hm (ι:= {p:Nat×Nat // p.1<=32/\2^p.1∣p.2/\p.2+2^p.1<=4294967296/\D8i n.toNat p.1 p.2=D8i n.toNat 32 0}) (λp=> [(0, .cA,sI n),(3, .cA,sI p.1.2),(4, .cA,sI (F3c p.1.1))])
   (λp=> []) (λp=>p.1.1) ⟨(32,0),by decide,by decide,by decide,rfl⟩ ?_ ?_
  ·refine E0 [] [] (sg_ ?_);decide
  ·rintro⟨⟨k,r⟩,hk,hr,hlt,he⟩;simp only at hk hr hlt he;refine sg_ ?_;cases k with
   |zero=>rw[if_neg (by decide)];rw[<-he];rfl
   |succ k=>
    obtain⟨a1,a2,a3,a4,a5⟩:=F8r hr hlt;rw[if_pos (by show(0:Int)<((2^k:Nat):Int);omega)];have hor:=G5p hr (by omega) (show k<32 by omega)
    have hu: ∀m:Nat,m<18446744073709551616->IntKind.u64.wrap (m:Int)=m:=λm hm'=>by rw[IntKind.wrap_u64];omega
    have hun:IntKind.u64.wrap n=n:=by rw[IntKind.wrap_u64];omega
    have hsq:(r+2^k)*(r+2^k)<18446744073709551616:=by
     have h1:r+2^k<=4294967295:=by omega
     have:=Nat.mul_le_mul h1 h1;omega
    simp only[show F3c (k+1)=((2^k:Nat):Int)from rfl,hun,F7x];have key: ∀X:Int,X=((r+2^k:Nat):Int)->IntKind.u64.wrap (IntKind.u64.wrap X*IntKind.u64.wrap X)=(((r+2^k)*(r+2^k):Nat):Int):=λX hX=>by rw[hX,hu (r+2^k) (by omega),<-Int.natCast_mul,hu _ hsq]
    generalize hX:IntKind.i64.wrap _=X;have hX2:X=((r+2^k:Nat):Int):=hX.symm.trans hor;rw[key X hX2];clear hX;subst hX2;by_cases hc:(r+2^k)*(r+2^k)<=n.toNat
    ·rw[if_pos (by omega)];refine⟨by decide,?_⟩;refine A8 ⟨(k,r+2^k),by show k<=32;omega,a3,a4,by rw[<-he];simp only[D8i,hc,if_true]⟩ (Nat.lt_succ_self k) (E0 [] [] ?_);simp only[go_sem]
    ·rw[if_neg (by omega)];refine⟨by decide,?_⟩;refine A8 ⟨(k,r),by show k<=32;omega,a1,a2,by rw[<-he];simp only[D8i,hc,if_false]⟩ (Nat.lt_succ_self k) (E0 [] [] ?_);simp only[go_sem]
def B0g(v:cI):Int:=isq (B4k ⟨0,0⟩ v)
theorem V8(v:cI):cA_ E45 [.agg v.enc] [] (sI (B0g v)) []:=by refine en1 hm A6 Tryz.func271 rfl rfl (sg_ ?_);refine A0 (Y2 ⟨0,0⟩ v) rfl (sg_ ?_);refine A0 (B2w _) rfl ?_;simp only[B0g,go_sem]
def F5z(b:cF):Bool:= !b.fD&&decide (B0g b.dL<=4096)&&decide (-4096<=b.cZ)&&decide (b.cZ<=4096)
theorem E3l(b:cF):cA_ E17 [.agg b.enc] [] (sB (F5z b)) []:=by refine en1 hm A6 Tryz.func327 rfl rfl (sg_ ?_);refine A0 (V8 b.dL) rfl (sg_ ?_);rfl
def B3x(b:cF):cF:= {b with eJ:=if F5z b then IntKind.i64.wrap ((if 1048575<b.eJ then 1048575 else b.eJ)+1)else 0}
theorem D3f(b:cF):cA_ D07 [.agg b.enc] [] (.agg (B3x b).enc) []:=by
 refine M3 12 [(2,some (some 20))] hm A6 Tryz.func198 rfl (sg_ ?_);refine A0 (E3l b) rfl (sg_ ?_);split
 ·rename_i h;simp only[B3x,h,go_sem]
 ·rename_i h;simp only[B3x,h,Bool.false_eq_true,go_sem]
def okO(O:List (Nat×A7)):Prop:=(O.map (·.1)).Nodup/\ ∀p∈O,∀cs,p.2= .box cs-> ∀j∈F0 cs,(ofL O j).isSome
theorem B4t {O:List (Nat×A7)}(hn:(O.map (·.1)).Nodup){i:Nat}{o:A7}(h:(i,o)∈O):ofL O i=some o:=by
 rw[B9z O hn];have:O.find? (λp=>p.1==i)=some (i,o):=by
  induction O with
  |nil=>cases h
  |cons p O ih=>
   simp only[List.map_cons,List.nodup_cons]at hn;rcases List.mem_cons.1 h with e |h'
   ·subst e;simp
   ·have hne:p.1≠i:=λe=>hn.1 (e▸List.mem_map_of_mem (f:=(·.1)) h')
    simp only[List.find?_cons,beq_eq_false_iff_ne.2 hne];exact ih hn.2 h'
 rw[this];rfl
theorem E0d {O:List (Nat×A7)}: ∀ {cs:List AV},(∀j∈F0 cs,(ofL O j).isSome)->C12 id [] O cs cs
 | [],_=> .nil
 |c::cs,h=>by refine .cons ?_ (E0d λj hj=>h j (by simp[F0,hj]));have:B93 id [] O (c.ren id) c:= .cA λj hj=>⟨h j (by simp[F0,hj]),by simp⟩;rwa[AV.ren_id]at this
theorem D6c {O:List (Nat×A7)}(h:okO O): ∀(l:List (Nat×A7)),(∀p∈l,p∈O)->D2j (ofL O) id [] O l
 | [],_=>trivial
 |(i,o)::l,hl=>by
  refine⟨?_,D6c h l λp hp=>hl p (List.mem_cons_of_mem _ hp)⟩;have hio:=hl (i,o) (List.mem_cons_self ..);rw[if_neg (by simp)];simp only[id,B4t h.1 hio];cases o with
  |box cs=>exact .inl ⟨cs,cs,rfl,rfl,E0d (h.2 _ hio cs rfl)⟩
  |_=>exact .inr ⟨(λcs e=>by cases e),(λcs e=>by cases e), .inl rfl⟩
theorem X8 {σ:St}{T:J6}{O:List (Nat×A7)}(h:okO O)(hobj:σ.objs=ofL O)(hs:A3i σ id [] O T [] λwr=>wr= []):V9 (O.map (·.1)) σ T O:=by
 refine⟨id,[],h.1,(by have e:(List.map (λx=>x.fst) O).filter (λi=> !([]:List Nat).contains i)=List.map (λx=>x.fst) O:=List.filter_eq_self.2 (λa _=>by simp);simp only[e,List.map_id];exact h.1),λk hk=>⟨by simp,rfl,?_⟩,B3v (λwr hwr=> ?_) T [] hs⟩
 ·rw[List.mem_map]at hk;obtain⟨p,hp,rfl⟩:=hk;rw[B4t h.1 hp];rfl
 ·subst hwr;have:wrm σ.objs []=ofL O:=hobj;rw[this];exact D6c h O λ_ hp=>hp
theorem R9 {σ:St}{ts:List Nat}{rs:List AV}{O:List (Nat×A7)}(md:List C3n)(hm:md.length=ts.length)(hr:rs.length=ts.length)(h:okO O)(hobj:σ.objs=ofL O)(hs:A3i σ id [] O (C1g ts md rs) [] λwr=>wr= []):
  A8c (O.map (·.1)) σ ts rs O:=⟨md,hm,hr,X8 h hobj hs⟩
theorem B14(o:A7):o.ren id=o:=by cases o <;> simp only[A7.ren];rw[O5]
theorem V5 {O:List (Nat×A7)}(h:okO O):wrm (ofL O) (A3u id O)=ofL O:=by
 rw[C5g];funext x;rw[C5z O _ h.1];cases hf:O.find? (λp=>p.1==x)with
 |none=>rfl
 |some p=>have h1:=List.find?_some hf;simp only[beq_iff_eq]at h1;subst h1;exact(B4t h.1 (List.mem_of_find?_eq_some hf)).symm
theorem A84 {m:Nat->Option A7}{O:List (Nat×A7)}: ∀ {avs:List AV},(∀a∈avs,∀i∈a.ids,(ofL O i).isSome)->S2 m id O (avs.map λ_=>true) avs avs []
 | [],_=>rfl
 |a::avs,h=>⟨AV.ren_id a,h a (List.mem_cons_self ..),A84 λb hb=>h b (List.mem_cons_of_mem _ hb)⟩
theorem X9 {P:Program}{m:Nat->Option A7}{f:FuncId}{avs:List AV}{b:Bool}{Q:ContR}{O:List (Nat×A7)}{r:AV}(hc:D5 P f avs O r O)(h:okO O)(hm:m=ofL O)
  (ha: ∀a∈avs,∀i∈a.ids,(ofL O i).isSome)(hb:b=true)(hK: @Ri Q b ⟨some r,A3u id O⟩): @A21 P m f avs b Q:=by
 refine⟨⟨some r,A3u id O⟩,λ_=> ?_,λ_=>hb,hK⟩;have:=R5.mk (P:=P) (m:=m) (avs.map λ_=>true) avs O r O id [] false hc (A84 ha)
  (λi o hi=>by rw[B14];subst hm;exact hi)
  (λi cs hi j hj=>h.2 _ (A0p h.1 hi) cs rfl j hj) (λi hi=>hi) (λi hi=> .inl hi) (by simpa using h.1) (λe=>by cases e)
 simpa[AV.ren_id]using this
def B1p(p:Int->Bool)(l:List Int):Int:=match(List.range l.length).find? (λi=>p (l.getD i 0))with |some i=>i |none=> -1
theorem E2v {p:Int->Bool}{l:List Int}{i:Nat}(hi:i<l.length)(h: ∀j,j<i->p (l.getD j 0)=false)(hp:p (l.getD i 0)=true):B1p p l=i:=by
 have:(List.range l.length).find? (λi=>p (l.getD i 0))=some i:=by rw[List.find?_range_eq_some];exact⟨hp,by simpa using hi,λj hj=>by simp only[h j hj,Bool.not_false]⟩
 unfold B1p;rw[this]
theorem C2j {p:Int->Bool}{l:List Int}(h: ∀j,j<l.length->p (l.getD j 0)=false):B1p p l= -1:=by
 have:(List.range l.length).find? (λi=>p (l.getD i 0))=none:=by rw[List.find?_range_eq_none];exact λj hj=>by simp only[h j hj,Bool.not_false]
 unfold B1p;rw[this]
theorem D8g(p:Int->Bool)(l:List Int):decide (0<=B1p p l)=l.any p:=by
 cases h:l.any p with
 |true=>
  rw[List.any_eq_true]at h;obtain⟨x,hx,hp⟩:=h;obtain⟨k,hk,rfl⟩:=List.getElem_of_mem hx;unfold B1p;cases hf:(List.range l.length).find? (λi=>p (l.getD i 0))with
  |none=>rw[List.find?_range_eq_none]at hf;have:=hf k hk;simp[List.getD,hk,hp]at this
  |some i=>simp
 |false=>rw[List.any_eq_false]at h;rw[C2j λj hj=>by simpa using h _ (B8 0 hj)];decide
theorem D3i(l:List Int)(x:Int)(hl:l.length<=1048576):cA_ D1b [A4 1 C6 0 l,sI x] [] (sI (B1p (λy=>x==y) l)) []:=by
 refine en1 hm A6 Tryz.func395 rfl rfl (sg_ ?_);refine B1 hm (ι:= {i:Nat // i<=l.length/\ ∀j,j<i->(x==l.getD j 0)=false}) (λi=> [(0, .cA,A4 1 C6 0 l),(1, .cA,sI x),(7, .cA,sI l.length),(8, .cA,sI i.1)])
  (λi=> []) (λi=>l.length-i.1) ⟨0,by omega,λj hj=>by omega⟩ ?_ ?_
 ·refine E0 [] [] ?_;simp only[go_sem]
 ·rintro⟨i,hi,hs⟩;refine sg_ ?_;split
  ·rename_i hlt;have hlt:i<l.length:=by omega
   refine⟨ok_,?_⟩;cases hx:(x==l.getD i 0)with
   |true=>rw[if_pos rfl];exact(E2v hlt hs hx).symm
   |false=>rw[if_neg (by simp)];refine A8 ⟨i+1,by omega,λj hj=>by rcases Nat.lt_succ_iff_lt_or_eq.1 hj with h |rfl;exact hs j h;exact hx⟩ (by show l.length-(i+1)<l.length-i;omega) (E0 [] [] ?_);refine sg_ ?_;exact(by rw[IntKind.wrap_i64];omega)
  ·rename_i hge;exact(C2j λj hj=>hs j (by omega)).symm
theorem C5r(l:List Int)(x:Int)(hl:l.length<=1048576):cA_ C4y [A4 1 C6 0 l,sI x] [] (sB (l.any λy=>x==y)) []:=by refine en1 hm A6 Tryz.func259 rfl rfl (sg_ ?_);refine A0 (D3i l x hl) rfl ?_;simp only[D8g,go_sem]
theorem A7j(l:List Int)(f:FuncId)(first cap:List AV)(O:List (Nat×A7))(p:Int->Bool)(hl:l.length<=1000000000)(hO:okO O)
  (hids: ∀i∈(AV.fn (.func f) first cap).ids,(ofL O i).isSome)
  (hp: ∀x∈l,cA_ f (first++ [sI x]++cap) O (sB (p x)) O):
  cA_ B13 [A4 1 C6 0 l, .fn (.func f) first cap] O (sI (B1p p l)) O:=by
 have hren:(AV.fn (.func f) first cap).ren id= .fn (.func f) first cap:=AV.ren_id _
 have hargs: ∀x:Int,∀a∈first++ [sI x]++cap,∀i∈a.ids,(ofL O i).isSome:=λx a ha i hi=>by
  simp only[List.mem_append,List.mem_singleton]at ha;refine hids i ?_;simp only[AV.ids,List.mem_append];rcases ha with(ha |rfl) |ha
  ·obtain⟨k,hk⟩:=List.getElem?_of_mem ha;exact .inl (P6 hk i hi)
  ·simp[AV.ids]at hi
  ·obtain⟨k,hk⟩:=List.getElem?_of_mem ha;exact .inr (P6 hk i hi)
 refine I7 hm A6 Tryz.func190 rfl rfl (sg_ ?_);refine B1 hm (ι:= {i:Nat // i<=l.length/\ ∀j,j<i->p (l.getD j 0)=false}) (λi=> [(0, .cA,A4 1 C6 0 l),(1, .cA, .fn (.func f) first cap),(7, .cA,sI l.length),(8, .cA,sI i.1)])
  (λi=>O) (λi=>l.length-i.1) ⟨0,by omega,λj hj=>by omega⟩ ?_ ?_
 ·refine X8 hO rfl (sg_ ?_);exact⟨by rw[O5,O5],λi hi=>hids i hi⟩
 ·rintro⟨i,hi,hs⟩;refine sg_ ?_;split
  ·rename_i hlt;have hlt:i<l.length:=by omega
   refine⟨ok_,?_⟩;have hx:cA_ f (first++ .sc (.int .i64 (l.getD i 0))::cap) O (sB (p (l.getD i 0))) O:=by have:=hp (l.getD i 0) (B8 0 hlt);rwa[List.append_assoc]at this
   refine X9 hx hO rfl (λa ha=>hargs (l.getD i 0) a (by rw[List.append_assoc];exact ha)) rfl (sg_ ?_);cases hpx:p (l.getD i 0)with
   |true=>rw[if_pos rfl];refine R9 [.cA] rfl rfl hO (V5 hO) (sg_ ?_);exact(E2v hlt hs hpx).symm
   |false=>rw[if_neg (by simp)];refine A8 ⟨i+1,by omega,λj hj=>by rcases Nat.lt_succ_iff_lt_or_eq.1 hj with h |rfl;exact hs j h;exact hpx⟩ (by show l.length-(i+1)<l.length-i;omega) (X8 hO (V5 hO) ?_);refine sg_ ?_;exact⟨by rw[O5,O5],λi hi=>hids i hi,(by rw[IntKind.wrap_i64];omega)⟩
  ·rename_i hge;refine R9 [.cA] rfl rfl hO rfl (sg_ ?_);exact(C2j λj hj=>hs j (by omega)).symm
theorem A5f(l:List Int)(f:FuncId)(first cap:List AV)(O:List (Nat×A7))(p:Int->Bool)(hl:l.length<=1000000000)(hO:okO O)
  (hids: ∀i∈(AV.fn (.func f) first cap).ids,(ofL O i).isSome)
  (hp: ∀x∈l,cA_ f (first++ [sI x]++cap) O (sB (p x)) O):
  cA_ A9p [A4 1 C6 0 l, .fn (.func f) first cap] O (sB (l.any p)) O:=by
 refine I7 hm A6 Tryz.func328 rfl rfl (sg_ ?_);refine X9 (A7j l f first cap O p hl hO hids hp) hO rfl ?_ rfl ?_
 ·intro a ha;simp only[List.mem_cons,List.not_mem_nil,or_false]at ha;rcases ha with rfl |rfl
  ·intro i hi;simp[AV.ids]at hi
  ·exact hids
 ·refine sg_ ?_;refine R9 [.cA] rfl rfl hO (V5 hO) (sg_ ?_);exact D8g p l
mutual
theorem E0z {ρ:Nat->Nat}: ∀(c:AV),c.ids= []->c.ren ρ=c
 | .sc _,_=>rfl
 | .dsl ..,_=>rfl
 | .dslx ..,_=>rfl
 | .sl ..,h=>by simp[AV.ids]at h
 | .ptr ..,h=>by simp[AV.ids]at h
 | .mp _,h=>by simp[AV.ids]at h
 | .cW _,_=>rfl
 | .own ..,_=>rfl
 | .hole,_=>rfl
 | .agg cs,h=>by simp only[AV.ren,B2a cs (by simpa[AV.ids]using h)]
 | .tup cs,h=>by simp only[AV.ren,B2a cs (by simpa[AV.ids]using h)]
 | .fn f a b,h=>by simp only[AV.ids,List.append_eq_nil_iff]at h;simp only[AV.ren,B2a a h.1,B2a b h.2]
theorem B2a {ρ:Nat->Nat}: ∀(l:List AV),F0 l= []->A9i ρ l=l
 | [],_=>rfl
 |a::l,h=>by simp only[F0,List.append_eq_nil_iff]at h;simp only[A9i,E0z a h.1,B2a l h.2]
end
theorem E9o {P:Program}{m:Nat->Option A7}{f:FuncId}{b:Bool}{Q:ContR}{avs cargs:List AV}{O':List (Nat×A7)}{r:AV}(ρs:List (Nat×Nat))(hc:D5 P f cargs [] r O')
  (hr:r.noDsl=true)(ho: ∀p∈O',p.2.NoDsl)(hnO':(O'.map (·.1)).Nodup)(hnd:(O'.map λp=>D3 ρs p.1).Nodup)
  (ha:S3 m avs cargs [] λ_=>True)(hn:D2h m (D3 ρs) [] O')(hb:b=true)(hK: @Ri Q b ⟨some (r.ren (D3 ρs)),A3u (D3 ρs) O'⟩):
  @A21 P m f avs b Q:=by
 obtain⟨md0,cs,wr,h1,h2,_⟩:=C6t ha;have h1': ∃md,S2 m (D3 ρs) [] md avs cs wr:=by
  clear hc h2 ha;induction avs generalizing md0 cs wr with
  |nil=>cases md0 <;> cases cs <;> first |exact⟨[],h1⟩ |simp[S2]at h1
  |cons a avs ih=>
   cases md0 with
   |nil=>cases cs <;> simp[S2]at h1
   |cons x md=>
    cases cs with
    |nil=>cases x <;> simp[S2]at h1
    |cons c cs=>
     cases x with
     |true=>
      obtain⟨e1,e2,e3⟩:=h1;obtain⟨md',h'⟩:=ih md cs wr e3;refine⟨true::md',?_,e2,h'⟩;have:c.ids= []:=by
       cases hids:c.ids with
       |nil=>rfl
       |cons i l=>have:=e2 i (by rw[hids];simp);simp[ofL,wrm]at this
      rw[AV.ren_id]at e1;rw[<-e1];exact E0z c this
     |false=>obtain⟨p,w1,w2,f1,f2,rfl,f3⟩:=h1;obtain⟨md',h'⟩:=ih md cs w2 f3;exact⟨false::md',p,w1,w2,f1,f2,rfl,h'⟩
 obtain⟨md,h1'⟩:=h1';have:=R5.mk (P:=P) (m:=m) md cs [] r O' (D3 ρs) wr true (hc.args_le h2) h1' (λi o hi=>by simp[ofL,wrm]at hi) (λi cs hi=>by simp[ofL,wrm]at hi) (λi hi=>by simp[ofL,wrm]at hi)
  (λi hi=>by obtain⟨o,ho'⟩:=A89 hi;exact C0v hn i o ho') hnd (λ_=>⟨hr,λi o hi=>ho _ (A0p hnO' hi)⟩)
 exact⟨⟨some (r.ren (D3 ρs)),A3u (D3 ρs) O'⟩,λ_=>(by simpa using this),λ_=>hb,hK⟩
theorem Z2 {P:Program}{m:Nat->Option A7}{f:FuncId}{avs:List AV}{b:Bool}{Q:ContR}{O:List (Nat×A7)}{r:AV}(hc:D5 P f avs O r O)(h:okO O)(hm: ∀p∈O,m p.1=some p.2)
  (ha: ∀a∈avs,∀i∈a.ids,(ofL O i).isSome)(hb:b=true)(hK: @Ri Q b ⟨some r,O⟩): @A21 P m f avs b Q:=by
 rw[<-C5g O]at hK;refine⟨⟨some r,A3u id O⟩,λ_=> ?_,λ_=>hb,hK⟩;have:=R5.mk (P:=P) (m:=m) (avs.map λ_=>true) avs O r O id [] false hc (A84 ha)
  (λi o hi=>by rw[B14];exact hm _ (A0p h.1 hi))
  (λi cs hi j hj=>h.2 _ (A0p h.1 hi) cs rfl j hj) (λi hi=>hi) (λi hi=> .inl hi) (by simpa using h.1) (λe=>by cases e)
 simpa[AV.ren_id]using this
theorem B8u(k:Nat)(l:List Int)(f:FuncId)(first cap:List AV)(O:List (Nat×A7))(p:Int->Bool)(hl:l.length<=1000000000)(hO:okO O)(hk:ofL O k=some (.arr 1 (A9 C6 0 l)))
  (hids: ∀i∈(AV.fn (.func f) first cap).ids,(ofL O i).isSome)
  (hp: ∀x∈l,cA_ f (first++ [sI x]++cap) O (sB (p x)) O):
  cA_ B13 [.sl k 0 l.length l.length, .fn (.func f) first cap] O (sI (B1p p l)) O:=by
 have hren:(AV.fn (.func f) first cap).ren id= .fn (.func f) first cap:=AV.ren_id _
 have hargs: ∀x:Int,∀a∈first++ [sI x]++cap,∀i∈a.ids,(ofL O i).isSome:=λx a ha i hi=>by
  simp only[List.mem_append,List.mem_singleton]at ha;refine hids i ?_;simp only[AV.ids,List.mem_append];rcases ha with(ha |rfl) |ha
  ·obtain⟨k,hk⟩:=List.getElem?_of_mem ha;exact .inl (P6 hk i hi)
  ·simp[AV.ids]at hi
  ·obtain⟨k,hk⟩:=List.getElem?_of_mem ha;exact .inr (P6 hk i hi)
 refine I7 hm A6 Tryz.func190 rfl rfl (sg_ ?_);refine B1 hm (ι:= {i:Nat // i<=l.length/\ ∀j,j<i->p (l.getD j 0)=false}) (λi=> [(0, .cA, .sl k 0 l.length l.length),(1, .cA, .fn (.func f) first cap),(7, .cA,sI l.length),(8, .cA,sI i.1)])
  (λi=>O) (λi=>l.length-i.1) ⟨0,by omega,λj hj=>by omega⟩ ?_ ?_
 ·refine X8 hO rfl (sg_ ?_);exact⟨rfl,(by show(ofL O k).isSome=true;rw[hk];rfl),hren.symm,λi hi=>hids i hi⟩
 ·rintro⟨i,hi,hs⟩;have hk':=hk;simp only[A13];generalize hmo:ofL O=mo at hk'⊢;simp only[go_sem,hk'];split
  ·rename_i hlt;have hlt:i<l.length:=by omega
   refine⟨ok_,?_⟩;have hx:cA_ f (first++ .sc (.int .i64 (l.getD i 0))::cap) O (sB (p (l.getD i 0))) O:=by have:=hp (l.getD i 0) (B8 0 hlt);rwa[List.append_assoc]at this
   refine X9 hx hO hmo.symm (λa ha=>hargs (l.getD i 0) a (by rw[List.append_assoc];exact ha)) rfl ?_;have hself:wrm mo (A3u id O)=ofL O:=by rw[<-hmo];exact V5 hO
   refine sg_ ?_;cases hpx:p (l.getD i 0)with
   |true=>rw[if_pos rfl];refine R9 [.cA] rfl rfl hO hself (sg_ ?_);exact(E2v hlt hs hpx).symm
   |false=>rw[if_neg (by simp)];refine A8 ⟨i+1,by omega,λj hj=>by rcases Nat.lt_succ_iff_lt_or_eq.1 hj with h |rfl;exact hs j h;exact hpx⟩ (by show l.length-(i+1)<l.length-i;omega) (X8 hO hself ?_);refine sg_ ?_;exact⟨rfl,(by show(ofL O k).isSome=true;rw[hk];rfl),hren.symm,λi hi=>hids i hi,(by rw[IntKind.wrap_i64];omega)⟩
  ·rename_i hge;refine R9 [.cA] rfl rfl hO hmo.symm (sg_ ?_);exact(C2j λj hj=>hs j (by omega)).symm
theorem B5r(k:Nat)(l:List Int)(f:FuncId)(first cap:List AV)(O:List (Nat×A7))(p:Int->Bool)(hl:l.length<=1000000000)(hO:okO O)(hk:ofL O k=some (.arr 1 (A9 C6 0 l)))
  (hids: ∀i∈(AV.fn (.func f) first cap).ids,(ofL O i).isSome)
  (hp: ∀x∈l,cA_ f (first++ [sI x]++cap) O (sB (p x)) O):
  cA_ A9p [.sl k 0 l.length l.length, .fn (.func f) first cap] O (sB (l.any p)) O:=by
 refine I7 hm A6 Tryz.func328 rfl rfl (sg_ ?_);refine X9 (B8u k l f first cap O p hl hO hk hids hp) hO rfl ?_ rfl ?_
 ·intro a ha;simp only[List.mem_cons,List.not_mem_nil,or_false]at ha;rcases ha with rfl |rfl
  ·intro i hi;simp only[AV.ids,List.mem_singleton]at hi;subst hi;rw[hk];rfl
  ·exact hids
 ·refine sg_ ?_;refine R9 [.cA] rfl rfl hO (V5 hO) (sg_ ?_);exact D8g p l
def inR(x lo hi:Int):Bool:=decide (lo<=x/\x<=hi)
theorem C77(x lo hi:Int):cA_ F23 [sI x,sI lo,sI hi] [] (sB (inR x lo hi)) []:=by
 refine en1 hm A6 Tryz.func86 rfl rfl (sg_ ?_);by_cases h:lo<=x
 ·simp only[h,if_true,inR,true_and]
 ·simp only[h,if_false,inR,false_and,decide_false]
theorem B8q(x lo hi:Int):cA_ E4v [sI x,sI lo,sI hi] [] (sB (inR x lo hi)) []:=by
 refine en1 hm A6 Tryz.func358 rfl rfl (sg_ ?_);by_cases h:lo<=x
 ·simp only[h,if_true,inR,true_and]
 ·simp only[h,if_false,inR,false_and,decide_false]
theorem K7(x lo hi:Int):cA_ D9n [sI x,sI lo,sI hi] [] (sB (inR x lo hi)) []:=by
 refine en1 hm A6 Tryz.func362 rfl rfl (sg_ ?_);by_cases h:lo<=x
 ·simp only[h,if_true,inR,true_and]
 ·simp only[h,if_false,inR,false_and,decide_false]
theorem R3(a b:Int):cA_ E9w [sI a,sI b] [] (sI (sat (sat a-sat b))) []:=by refine en1 hm A6 Tryz.func300 rfl rfl (sg_ ?_);refine A0 (L3 a) rfl (sg_ ?_);refine A0 (L3 b) rfl (sg_ ?_);refine A0 (L3 _) rfl (sg_ ?_);have:=Z1 a;have:=Z1 b;rw[show IntKind.i64.wrap (sat a-sat b)=sat a-sat b by rw[IntKind.wrap_i64];omega]
def O6(a b:cI):cI:=⟨sat (sat a.X-sat b.X),sat (sat a.Y-sat b.Y)⟩
theorem L7(a b:cI):cA_ F22 [.agg a.enc, .agg b.enc] [] (.agg (O6 a b).enc) []:=by refine M3 16 [(4,some (some 2))] hm A6 Tryz.func272 rfl (sg_ ?_);refine A0 (R3 a.X b.X) rfl (sg_ ?_);refine A0 (R3 a.Y b.Y) rfl ?_;simp only[O6,go_sem]
theorem F16 {x y m n:Int}(h1: -m<=x)(h2:x<=m)(h3: -n<=y)(h4:y<=n): -(m*n)<=x*y/\x*y<=m*n:=by
 have hm:0<=m:=by omega
 have hn:0<=n:=by omega
 rcases Int.le_total 0 x with hx |hx <;> rcases Int.le_total 0 y with hy |hy
 ·have a:=Int.mul_le_mul h2 h4 hy hm;have b:=Int.mul_nonneg hx hy;omega
 ·have a:=Int.mul_le_mul h2 (show -y<=n by omega) (by omega) hm;have b:=Int.mul_nonneg hx (show 0<= -y by omega);rw[Int.mul_neg]at a b;omega
 ·have a:=Int.mul_le_mul (show -x<=m by omega) h4 hy hm;have b:=Int.mul_nonneg (show 0<= -x by omega) hy;rw[Int.neg_mul]at a b;omega
 ·have a:=Int.mul_le_mul (show -x<=m by omega) (show -y<=n by omega) (by omega) hm;have b:=Int.mul_nonneg (show 0<= -x by omega) (show 0<= -y by omega);rw[Int.neg_mul_neg]at a b;omega
def crs(a b c:cI):Int:=(sat b.X-sat a.X)*(sat c.Y-sat a.Y)-(sat b.Y-sat a.Y)*(sat c.X-sat a.X)
def ori(a b c:cI):Int:=if 0<crs a b c then 1 else if crs a b c<0 then -1 else 0
theorem F78(a b c:cI):IntKind.i64.wrap (IntKind.i64.wrap (IntKind.i64.wrap (sat b.X-sat a.X)*IntKind.i64.wrap (sat c.Y-sat a.Y))-IntKind.i64.wrap (IntKind.i64.wrap (sat b.Y-sat a.Y)*IntKind.i64.wrap (sat c.X-sat a.X)))=crs a b c:=by
 have h1:=Z1 a.X;have h2:=Z1 a.Y;have h3:=Z1 b.X;have h4:=Z1 b.Y;have h5:=Z1 c.X;have h6:=Z1 c.Y
 have w: ∀x y,-536870911<=x/\x<=536870911-> -536870911<=y/\y<=536870911->IntKind.i64.wrap (x-y)=x-y:=λx y _ _=>by rw[IntKind.wrap_i64];omega
 rw[w _ _ h3 h1,w _ _ h6 h2,w _ _ h4 h2,w _ _ h5 h1];have p1:=F16 (x:=sat b.X-sat a.X) (y:=sat c.Y-sat a.Y) (m:=1073741822) (n:=1073741822) (by omega) (by omega) (by omega) (by omega)
 have p2:=F16 (x:=sat b.Y-sat a.Y) (y:=sat c.X-sat a.X) (m:=1073741822) (n:=1073741822) (by omega) (by omega) (by omega) (by omega);unfold crs;generalize(sat b.X-sat a.X)*(sat c.Y-sat a.Y)=p at*;generalize(sat b.Y-sat a.Y)*(sat c.X-sat a.X)=q at*;simp only[IntKind.wrap_i64];omega
theorem A2w(a b c:cI):cA_ D1i [.agg a.enc, .agg b.enc, .agg c.enc] [] (sI (ori a b c)) []:=by
 refine en1 hm A6 Tryz.func274 rfl rfl (sg_ ?_);refine A0 (A1i a) rfl (sg_ ?_);refine A0 (A1i b) rfl (sg_ ?_);refine A0 (A1i c) rfl ?_;simp only[C4h,F78,go_sem];unfold ori
 (repeat' split) <;> omega
def E8r(v:cI):Bool:=decide (-1048576<=v.X/\v.X<=1048576/\ -1048576<=v.Y/\v.Y<=1048576)
theorem D5u(v:cI):cA_ D48 [.agg v.enc] [] (sB (E8r v)) []:=by
 refine en1 hm A6 Tryz.func540 rfl rfl (sg_ ?_);unfold E8r;rw[Bool.eq_iff_iff]
 (repeat' split) <;> simp_all <;> omega
def A37(n d:Int):Int:=if d<1\/d>4611686018427387904\/n < -4611686018427387904\/n>4611686018427387904 then 0 else
 if n.tmod d>=d-n.tmod d then n.tdiv d+1 else if -(n.tmod d)>=d+n.tmod d then n.tdiv d-1 else n.tdiv d
theorem F91 {n d:Int}(h1:1<=d)(h2: -4611686018427387904<=n)(h3:n<=4611686018427387904): -4611686018427387904<=n.tdiv d/\n.tdiv d<=4611686018427387904/\ -d<n.tmod d/\n.tmod d<d:=by
 have a:=Int.tmod_lt_of_pos n (show 0<d by omega)
 have b:=Int.lt_tmod_of_pos n (show 0<d by omega)
 have e:=Int.mul_tdiv_add_tmod n d
 have hd:(n.tdiv d).natAbs<=n.natAbs:=by rw[Int.natAbs_tdiv];exact Nat.div_le_self _ _
 omega
theorem Q5(n d:Int):cA_ D6w [sI n,sI d] [] (sI (A37 n d)) []:=by
 refine en1 hm A6 Tryz.func415 rfl rfl (sg_ ?_);unfold A37;by_cases hc:d<1\/d>4611686018427387904\/n < -4611686018427387904\/n>4611686018427387904
 ·rw[if_pos hc,if_pos (by(repeat' split) <;> simp <;> omega)]
 ·rw[if_neg hc,if_neg (by(repeat' split) <;> simp <;> omega)];obtain⟨h1,h2,h3,h4⟩:=F91 (n:=n) (d:=d) (by omega) (by omega) (by omega);have e1:IntKind.i64.wrap (n.tdiv d)=n.tdiv d:=by rw[IntKind.wrap_i64];omega
  rw[e1];have e2:IntKind.i64.wrap (d-n.tmod d)=d-n.tmod d:=by rw[IntKind.wrap_i64];omega
  have e3:IntKind.i64.wrap (d+n.tmod d)=d+n.tmod d:=by rw[IntKind.wrap_i64];omega
  have e4:IntKind.i64.wrap (0-n.tmod d)= -n.tmod d:=by rw[IntKind.wrap_i64];omega
  rw[e2,e3,e4];refine⟨by omega,by omega,?_⟩;split
  ·rw[IntKind.wrap_i64];omega
  ·split
   ·rw[IntKind.wrap_i64];omega
   ·rfl
end Go.Abs
end
