/- This claim's own texts, joined, with only what the claim uses: ScanD. -/
import Derived.Test.YtgaoapnaplgaiaaGreatDoorZs4
namespace Go.Proofs.YtgaoapnaplgaiaaGreatDoor.Sc
set_option maxRecDepth 100000
open Go.RowKit
theorem cL {α:Type} {l:List α} {k:Nat} (h:l.length=k+1):∃a t,l=a :: t∧t.length=k:=by
 cases l with
 | nil=>simp at h
 | cons a t=>exact ⟨a,t,rfl,by simpa using h⟩
set_option maxRecDepth 100000 in
theorem spread {us:List Value} (h:us.length=81):∃u3 u4 u5 u6 u7 u8 u9 u10 u11 u12 u13 u14 u15 u16 u17 u18 u19 u20 u21 u22 u23 u24 u25 u26 u27 u28 u29 u30 u31 u32 u33 u34 u35 u36 u37 u38 u39 u40 u41 u42 u43 u44 u45 u46 u47 u48 u49 u50 u51 u52 u53 u54 u55 u56 u57 u58 u59 u60 u61 u62 u63 u64 u65 u66 u67 u68 u69 u70 u71 u72 u73 u74 u75 u76 u77 u78 u79 u80 u81 u82 u83:Value,us=u3 :: u4 :: u5 :: u6 :: u7 :: u8 :: u9 :: u10 :: u11 :: u12 :: u13 :: u14 :: u15 :: u16 :: u17 :: u18 :: u19 :: u20 :: u21 :: u22 :: u23 :: u24 :: u25 :: u26 :: u27 :: u28 :: u29 :: u30 :: u31 :: u32 :: u33 :: u34 :: u35 :: u36 :: u37 :: u38 :: u39 :: u40 :: u41 :: u42 :: u43 :: u44 :: u45 :: u46 :: u47 :: u48 :: u49 :: u50 :: u51 :: u52 :: u53 :: u54 :: u55 :: u56 :: u57 :: u58 :: u59 :: u60 :: u61 :: u62 :: u63 :: u64 :: u65 :: u66 :: u67 :: u68 :: u69 :: u70 :: u71 :: u72 :: u73 :: u74 :: u75 :: u76 :: u77 :: u78 :: u79 :: u80 :: u81 :: u82 :: u83 :: []:=by
 obtain ⟨u3,us0,rfl,h0⟩:=cL h
 obtain ⟨u4,us1,rfl,h1⟩:=cL h0
 obtain ⟨u5,us2,rfl,h2⟩:=cL h1
 obtain ⟨u6,us3,rfl,h3⟩:=cL h2
 obtain ⟨u7,us4,rfl,h4⟩:=cL h3
 obtain ⟨u8,us5,rfl,h5⟩:=cL h4
 obtain ⟨u9,us6,rfl,h6⟩:=cL h5
 obtain ⟨u10,us7,rfl,h7⟩:=cL h6
 obtain ⟨u11,us8,rfl,h8⟩:=cL h7
 obtain ⟨u12,us9,rfl,h9⟩:=cL h8
 obtain ⟨u13,us10,rfl,h10⟩:=cL h9
 obtain ⟨u14,us11,rfl,h11⟩:=cL h10
 obtain ⟨u15,us12,rfl,h12⟩:=cL h11
 obtain ⟨u16,us13,rfl,h13⟩:=cL h12
 obtain ⟨u17,us14,rfl,h14⟩:=cL h13
 obtain ⟨u18,us15,rfl,h15⟩:=cL h14
 obtain ⟨u19,us16,rfl,h16⟩:=cL h15
 obtain ⟨u20,us17,rfl,h17⟩:=cL h16
 obtain ⟨u21,us18,rfl,h18⟩:=cL h17
 obtain ⟨u22,us19,rfl,h19⟩:=cL h18
 obtain ⟨u23,us20,rfl,h20⟩:=cL h19
 obtain ⟨u24,us21,rfl,h21⟩:=cL h20
 obtain ⟨u25,us22,rfl,h22⟩:=cL h21
 obtain ⟨u26,us23,rfl,h23⟩:=cL h22
 obtain ⟨u27,us24,rfl,h24⟩:=cL h23
 obtain ⟨u28,us25,rfl,h25⟩:=cL h24
 obtain ⟨u29,us26,rfl,h26⟩:=cL h25
 obtain ⟨u30,us27,rfl,h27⟩:=cL h26
 obtain ⟨u31,us28,rfl,h28⟩:=cL h27
 obtain ⟨u32,us29,rfl,h29⟩:=cL h28
 obtain ⟨u33,us30,rfl,h30⟩:=cL h29
 obtain ⟨u34,us31,rfl,h31⟩:=cL h30
 obtain ⟨u35,us32,rfl,h32⟩:=cL h31
 obtain ⟨u36,us33,rfl,h33⟩:=cL h32
 obtain ⟨u37,us34,rfl,h34⟩:=cL h33
 obtain ⟨u38,us35,rfl,h35⟩:=cL h34
 obtain ⟨u39,us36,rfl,h36⟩:=cL h35
 obtain ⟨u40,us37,rfl,h37⟩:=cL h36
 obtain ⟨u41,us38,rfl,h38⟩:=cL h37
 obtain ⟨u42,us39,rfl,h39⟩:=cL h38
 obtain ⟨u43,us40,rfl,h40⟩:=cL h39
 obtain ⟨u44,us41,rfl,h41⟩:=cL h40
 obtain ⟨u45,us42,rfl,h42⟩:=cL h41
 obtain ⟨u46,us43,rfl,h43⟩:=cL h42
 obtain ⟨u47,us44,rfl,h44⟩:=cL h43
 obtain ⟨u48,us45,rfl,h45⟩:=cL h44
 obtain ⟨u49,us46,rfl,h46⟩:=cL h45
 obtain ⟨u50,us47,rfl,h47⟩:=cL h46
 obtain ⟨u51,us48,rfl,h48⟩:=cL h47
 obtain ⟨u52,us49,rfl,h49⟩:=cL h48
 obtain ⟨u53,us50,rfl,h50⟩:=cL h49
 obtain ⟨u54,us51,rfl,h51⟩:=cL h50
 obtain ⟨u55,us52,rfl,h52⟩:=cL h51
 obtain ⟨u56,us53,rfl,h53⟩:=cL h52
 obtain ⟨u57,us54,rfl,h54⟩:=cL h53
 obtain ⟨u58,us55,rfl,h55⟩:=cL h54
 obtain ⟨u59,us56,rfl,h56⟩:=cL h55
 obtain ⟨u60,us57,rfl,h57⟩:=cL h56
 obtain ⟨u61,us58,rfl,h58⟩:=cL h57
 obtain ⟨u62,us59,rfl,h59⟩:=cL h58
 obtain ⟨u63,us60,rfl,h60⟩:=cL h59
 obtain ⟨u64,us61,rfl,h61⟩:=cL h60
 obtain ⟨u65,us62,rfl,h62⟩:=cL h61
 obtain ⟨u66,us63,rfl,h63⟩:=cL h62
 obtain ⟨u67,us64,rfl,h64⟩:=cL h63
 obtain ⟨u68,us65,rfl,h65⟩:=cL h64
 obtain ⟨u69,us66,rfl,h66⟩:=cL h65
 obtain ⟨u70,us67,rfl,h67⟩:=cL h66
 obtain ⟨u71,us68,rfl,h68⟩:=cL h67
 obtain ⟨u72,us69,rfl,h69⟩:=cL h68
 obtain ⟨u73,us70,rfl,h70⟩:=cL h69
 obtain ⟨u74,us71,rfl,h71⟩:=cL h70
 obtain ⟨u75,us72,rfl,h72⟩:=cL h71
 obtain ⟨u76,us73,rfl,h73⟩:=cL h72
 obtain ⟨u77,us74,rfl,h74⟩:=cL h73
 obtain ⟨u78,us75,rfl,h75⟩:=cL h74
 obtain ⟨u79,us76,rfl,h76⟩:=cL h75
 obtain ⟨u80,us77,rfl,h77⟩:=cL h76
 obtain ⟨u81,us78,rfl,h78⟩:=cL h77
 obtain ⟨u82,us79,rfl,h79⟩:=cL h78
 obtain ⟨u83,us80,rfl,h80⟩:=cL h79
 obtain rfl:us80=[]:=List.eq_nil_of_length_eq_zero h80
 exact ⟨u3,u4,u5,u6,u7,u8,u9,u10,u11,u12,u13,u14,u15,u16,u17,u18,u19,u20,u21,u22,u23,u24,u25,u26,u27,u28,u29,u30,u31,u32,u33,u34,u35,u36,u37,u38,u39,u40,u41,u42,u43,u44,u45,u46,u47,u48,u49,u50,u51,u52,u53,u54,u55,u56,u57,u58,u59,u60,u61,u62,u63,u64,u65,u66,u67,u68,u69,u70,u71,u72,u73,u74,u75,u76,u77,u78,u79,u80,u81,u82,u83,rfl⟩
set_option maxRecDepth 100000 in
set_option maxHeartbeats 4000000 in
theorem skip_walk {g:Nat} {A:Option Addr} {n cap:Nat} {xs:List Int} (w:World) (hn:n≤65536) (hcap:n≤cap) (hx:xs.length=n) (hB:∀c ∈ xs,Byte c) (hg:g≠2) (hA:∀a,A=some a→a.block≠g)
  (p:Nat) (hp:p≤n) (h:At w g A n cap xs p w) :
  Calls Tryz.prog 39 #[.pointer (some ⟨g,0,none⟩)] w fun e w'=>∃p',p≤p'∧p'≤n∧At w g A n cap xs p' w'∧Gap (xs.drop p) (p' - p) ∧
   ((e=.returned (.bool true)∧Stuck (xs.drop p'))∨(e=.returned (.bool false)∧cmAt (xs.drop p')=.opens)):=by
 have tr:∀(a b:Nat),p≤a→a≤b→Gap (xs.drop p) (a - p)→Gap (xs.drop a) (b - a)→Gap (xs.drop p) (b - p):=fun a b h1 h2 g1 g2=>by
  have:=g1.trans (j:=b - a) (by rw [List.drop_drop,show p+(a - p)=a by omega];exact g2)
  rwa [show a - p+(b - a)=b - p by omega] at this
 go_enter Tryz.func39,Tryz.ntmps39
 go_wp2
 refine wp_scope_labels (fun l a W=>∃p',p≤p'∧p'≤n∧At w g A n cap xs p' W∧Gap (xs.drop p) (p' - p)∧(l=0∨(l=1∧cmAt (xs.drop p')=.opens))∧∃us:List Value,us.length=81∧a=⟨List.toArray (.pointer (some ⟨g,0,none⟩) :: undef :: .bool false :: us),[]⟩) (fun l _ W=>if l=0 then n - placeOf g W+1 else 0) ?_ ?_
 ·refine wp_seq (wp_label ?_)
  show rest0.wp Tryz.prog _ _ _
  refine rest0_walk hn hcap hx hB hg hA _ _ p hp w h _ _ _ _ _ _ _ _ _ _ _ _ _ _ _ _ _ _ _ _ _ _ _ _ _ _ _ _ _ _ _ _ _ _ _ _ _ _ _ _ _ _ _ _ _ _ _ _ _ _ _ _ _ _ _ _ _ _ _ _ _ _ _ _ _ _ _ _ _ _ _ _ _ _ _ _ _ _ _ _ _ ?_ ?_ ?_
  ·intro m' W' u3 u4 u5 u6 u7 u8 u9 u10 u11 u12 u13 u14 u15 u16 u17 u18 u19 u20 u21 u22 u23 u24 u25 u26 u27 u28 u29 u30 u31 u32 u33 u34 u35 u36 u37 u38 u39 u40 u41 u42 u43 u44 u45 u46 u47 u48 u49 u50 u51 u52 u53 u54 u55 u56 u57 u58 u59 u60 u61 u62 u63 u64 u65 u66 u67 u68 u69 u70 u71 u72 u73 u74 u75 u76 u77 u78 u79 u80 u81 u82 u83 hAt h1 h2 hG
   exact ⟨m',by omega,h2,hAt,hG,Or.inl rfl,_,rfl,rfl⟩
  ·intro m' W' u3 u4 u5 u6 u7 u8 u9 u10 u11 u12 u13 u14 u15 u16 u17 u18 u19 u20 u21 u22 u23 u24 u25 u26 u27 u28 u29 u30 u31 u32 u33 u34 u35 u36 u37 u38 u39 u40 u41 u42 u43 u44 u45 u46 u47 u48 u49 u50 u51 u52 u53 u54 u55 u56 u57 u58 u59 u60 u61 u62 u63 u64 u65 u66 u67 u68 u69 u70 u71 u72 u73 u74 u75 u76 u77 u78 u79 u80 u81 u82 u83 hAt h1 h2 hG ho
   exact ⟨m',by omega,h2,hAt,hG,Or.inr ⟨rfl,ho⟩,_,rfl,rfl⟩
  ·intro m' W' u3 u4 u5 u6 u7 u8 u9 u10 u11 u12 u13 u14 u15 u16 u17 u18 u19 u20 u21 u22 u23 u24 u25 u26 u27 u28 u29 u30 u31 u32 u33 u34 u35 u36 u37 u38 u39 u40 u41 u42 u43 u44 u45 u46 u47 u48 u49 u50 u51 u52 u53 u54 u55 u56 u57 u58 u59 u60 u61 u62 u63 u64 u65 u66 u67 u68 u69 u70 u71 u72 u73 u74 u75 u76 u77 u78 u79 u80 u81 u82 u83 hAt h1 h2 hG hst
   go_ret
   exact ⟨m',h1,h2,hAt,hG,Or.inl ⟨rfl,hst⟩⟩
 ·rintro l a W ⟨p',h1,h2,hAt,hG,hl,us,hus,rfl⟩
  obtain ⟨u3,u4,u5,u6,u7,u8,u9,u10,u11,u12,u13,u14,u15,u16,u17,u18,u19,u20,u21,u22,u23,u24,u25,u26,u27,u28,u29,u30,u31,u32,u33,u34,u35,u36,u37,u38,u39,u40,u41,u42,u43,u44,u45,u46,u47,u48,u49,u50,u51,u52,u53,u54,u55,u56,u57,u58,u59,u60,u61,u62,u63,u64,u65,u66,u67,u68,u69,u70,u71,u72,u73,u74,u75,u76,u77,u78,u79,u80,u81,u82,u83,rfl⟩:=spread hus
  rcases hl with rfl | ⟨rfl,ho⟩
  ·refine ⟨.seq .skip rest0,by kernel_rfl,wp_seq (wp_skip ?_)⟩
   show rest0.wp Tryz.prog _ _ _
   refine rest0_walk hn hcap hx hB hg hA _ _ p' h2 W hAt _ _ _ _ _ _ _ _ _ _ _ _ _ _ _ _ _ _ _ _ _ _ _ _ _ _ _ _ _ _ _ _ _ _ _ _ _ _ _ _ _ _ _ _ _ _ _ _ _ _ _ _ _ _ _ _ _ _ _ _ _ _ _ _ _ _ _ _ _ _ _ _ _ _ _ _ _ _ _ _ _ ?_ ?_ ?_
   ·intro m' W' u3 u4 u5 u6 u7 u8 u9 u10 u11 u12 u13 u14 u15 u16 u17 u18 u19 u20 u21 u22 u23 u24 u25 u26 u27 u28 u29 u30 u31 u32 u33 u34 u35 u36 u37 u38 u39 u40 u41 u42 u43 u44 u45 u46 u47 u48 u49 u50 u51 u52 u53 u54 u55 u56 u57 u58 u59 u60 u61 u62 u63 u64 u65 u66 u67 u68 u69 u70 u71 u72 u73 u74 u75 u76 u77 u78 u79 u80 u81 u82 u83 hAt' h1' h2' hG'
    refine ⟨⟨m',by omega,h2',hAt',tr _ _ h1 (by omega) hG hG',Or.inl rfl,_,rfl,rfl⟩,?_⟩
    rw [if_pos rfl,if_pos rfl,hAt.place,hAt'.place]
    omega
   ·intro m' W' u3 u4 u5 u6 u7 u8 u9 u10 u11 u12 u13 u14 u15 u16 u17 u18 u19 u20 u21 u22 u23 u24 u25 u26 u27 u28 u29 u30 u31 u32 u33 u34 u35 u36 u37 u38 u39 u40 u41 u42 u43 u44 u45 u46 u47 u48 u49 u50 u51 u52 u53 u54 u55 u56 u57 u58 u59 u60 u61 u62 u63 u64 u65 u66 u67 u68 u69 u70 u71 u72 u73 u74 u75 u76 u77 u78 u79 u80 u81 u82 u83 hAt' h1' h2' hG' ho
    refine ⟨⟨m',by omega,h2',hAt',tr _ _ h1 h1' hG hG',Or.inr ⟨rfl,ho⟩,_,rfl,rfl⟩,?_⟩
    rw [if_pos rfl,if_neg (by omega)]
    omega
   ·intro m' W' u3 u4 u5 u6 u7 u8 u9 u10 u11 u12 u13 u14 u15 u16 u17 u18 u19 u20 u21 u22 u23 u24 u25 u26 u27 u28 u29 u30 u31 u32 u33 u34 u35 u36 u37 u38 u39 u40 u41 u42 u43 u44 u45 u46 u47 u48 u49 u50 u51 u52 u53 u54 u55 u56 u57 u58 u59 u60 u61 u62 u63 u64 u65 u66 u67 u68 u69 u70 u71 u72 u73 u74 u75 u76 u77 u78 u79 u80 u81 u82 u83 hAt' h1' h2' hG' hst
    go_ret
    exact ⟨m',by omega,h2',hAt',tr _ _ h1 h1' hG hG',Or.inl ⟨rfl,hst⟩⟩
  ·refine ⟨rest1,by kernel_rfl,?_⟩
   conv=>arg 2;whnf
   go_wp2
   simp only [jumps]
   go_ret
   exact ⟨p',h1,h2,hAt,hG,Or.inr ⟨rfl,ho⟩⟩
end Go.Proofs.YtgaoapnaplgaiaaGreatDoor.Sc
