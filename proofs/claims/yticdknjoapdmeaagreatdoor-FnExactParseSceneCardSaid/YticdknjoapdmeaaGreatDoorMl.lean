/- Joined texts. -/
import Derived.Test.YticdknjoapdmeaaGreatDoorMk
import Derived.LaidLaws
import Derived.LaidHandle
import Derived.Stop.Joined
import Derived.Handed
import Derived.SevenTiedAt
import Derived.SizedLaws
import Derived.Stop.LaidErr
import Derived.Test.YticdknjoapdmeaaGreatDoorTie
import Derived.Test.YticdknjoapdmeaaGreatDoorCards
set_option linter.unusedVariables false
set_option linter.unnecessarySimpa false
set_option linter.unusedSimpArgs false
namespace Go.Proofs.YticdknjoapdmeaaGreatDoor
set_option maxHeartbeats 4000000
set_option maxRecDepth 100000
open Go.RowKit Go.Lib
theorem Only.thenB {B:Nat} {G:List Nat} {a u v:World} (h:Only B G a u) (hB:B<=u.heap.size) (hb:Below u.heap.size u v):Only B G a v:=h.trans (Only.of_below hb []) hB qs
theorem Only.thenAt {B X:Nat} {a u v:World} (h:Only B [X] a u) (k:OnlyAt X u v):Only B [X] a v:=⟨k.os.trans h.os,k.tape.trans h.tape,k.output.trans h.output,by rw [k.size];exact h.size,λb hb hx=>(k.blk b (by simpa using hx)).trans (h.block b hb hx)⟩
theorem Only.rs {B:Nat} {G:List Nat} {a w:World} (h:Only B G a w) {sz n c:Nat} {A:Option Addr} {xs:List Value} (hr:RS a sz A n c xs) (hl:∀ x,x∈gOf A->x<B/\x∉G):RS w sz A n c xs:=hr.keep h.size (λ_ x hx _=>h.block x (hl x hx).1 (hl x hx).2)
abbrev wds (u:List UInt8):List (List UInt8):=splitB 32 u++[[]]
theorem Zd7 (u:List UInt8):(Zam (wds u))[0]? = some (str ((wds u).getD 0 []))/\(Zam (wds u))[1]? = some (str ((wds u).getD 1 [])):=by
 have hpos:=Zb1 32 u
 have key:∀ i,i<(wds u).length->(Zam (wds u))[i]? = some (str ((wds u).getD i [])):=λi hi=>by
  rw [Zfd hi,List.getD_eq_getElem?_getD,List.getElem?_eq_getElem hi];rfl
 have hl:(wds u).length=(splitB 32 u).length+1:=by simp [wds]
 exact ⟨key 0 qo,key 1 qo⟩
theorem wds_len (u:List UInt8):((wds u).getD 1 []).length<=u.length:=by
 have hl:∀ p∈wds u,p.length<=u.length:=λp hp=>by
  rcases List.mem_append.1 hp with q|q
  ·exact Zc3 q
  ·rw [List.mem_singleton.1 q];simp
 rw [List.getD_eq_getElem?_getD]
 cases h:(wds u)[1]? with
 | none=>simp
 | some p=>exact hl p (List.mem_of_getElem? h)
theorem strs_drop (l:List (List UInt8)) (k:Nat):(Zam l).drop k=Zam (l.drop k):=(List.map_drop ..).symm
theorem strs_take (l:List (List UInt8)) (k:Nat):(Zam l).take k=Zam (l.take k):=(List.map_take ..).symm
set_option maxHeartbeats 64000000 in
theorem S_ParseScene (t:List UInt8) (w:World) (hl:t.length<=1048576) :
  Calls Tryz.prog 5 #[str t] w (Zdm (if accS t then pS t else Zdp) (accS t) w):=by
 have HSL:=qh (∀ wx,Calls Tryz.prog 16 #[str t] wx (Zc1 (linesT t) wx)) (λwx=>S_SplitLines t wx hl)
 unfold accS
 rw [pS_to]
 have HLL:=qh (∀ l∈linesT t,l.length<=1048576) (λl h=>Nat.le_trans (linesT_len.1 l h) hl)
 have hln:=(linesT_len (t:=t)).2
 generalize linesT t=ls at *
 have hTN:=hdQ (λk=>toS_N (ls:=ls) HLL.out k)
 have hTL:=hdQ (λk=>toS_len ls k)
 generalize hBS:(decide (Zbj (toS ls ls.length)≠[])&&decide (Zbj (toS ls ls.length)=t))=BS
 generalize hRS:(if BS=true then toS ls ls.length else Zdp)=RS_
 have HBS:=hdQ hBS
 have HRS:=hdQ hRS
 clear hBS hRS
 have hal:∀ wx:World,(Instr.alloc 30 true (.tuple #[])).run Tryz.prog wx=.ok (.pointer (some ⟨wx.heap.size,0,none⟩)) (wx.alloc (.cells ⟨zS⟩ 30)):=λwx=>by kernel_rfl
 obtain ⟨X,hX⟩:∃ X,X=w.heap.size+1:=⟨_,rfl⟩
 obtain ⟨WW,hWW⟩:∃ WW,WW=((w.alloc (.cells ⟨zS⟩ 30)).alloc (.cells ⟨zS⟩ 30)):=⟨_,rfl⟩
 have HA2:=qh ((Instr.alloc 30 true (.tuple #[])).run Tryz.prog (w.alloc (.cells ⟨zS⟩ 30))=.ok (.pointer (some ⟨X,0,none⟩)) WW) (by rw [hX,hWW];have:=hal (w.alloc (.cells ⟨zS⟩ 30));simpa using this)
 have HX0:=qh (Own WW w.heap.size 30 zS) (by rw [hWW];exact Own.alloc (Own.new w _ _) _)
 have HXX:=qh (Own WW X 30 zS) (by rw [hX,hWW];exact Own.at_new (cs:=⟨zS⟩) qs)
 have HB0:=qh (Below w.heap.size w WW) (by rw [hWW];exact ((Below.refl _ _).alloc qo _).alloc omm _)
 have hlx:X<WW.heap.size:=by rw [hX,hWW];simp
 have hwx:w.heap.size<X:=qo
 clear hX hWW
 obtain ⟨w1,hst,hs,hbk,hs1,e1,e2,e3⟩:=Zay (P:=Tryz.prog) (T:=30) (zs:=zS) (k:=0) HXX.out Zce (by show 12<=12;omega) qr
 have HST:=hdQ hst
 have HX1:=qh (Own w1 X 30 zS) hs
 have HQ1:=qh (Own w1 w.heap.size 30 zS) ((hbk _ qo).trans HX0.out)
 have HB1:=qh (Below w.heap.size w w1) (Below.trans HB0.out ⟨e1,e2,e3,qo,λb h=>hbk b qo⟩)
 have hz1:X<w1.heap.size:=qo
 clear hst hs hbk hs1 e1 e2 e3
 go_enter Tryz.func5,Tryz.ntmps5
 go_wp2_with (first|(refine Zao rfl 30 rfl HA2.out ?_)|(refine Zao rfl 30 rfl (hal _) ?_)|(refine Zaf rfl 30 (.tmp 4) (.tmp 10) rfl rfl rfl HST.out ?_)|fail)
 clear hal
 refine (HSL.out _).mono ?_
 rintro e w2 ⟨A,c,rfl,hr,hge,hb2⟩
 have hz2:=hb2.size
 have HX2:=qh (Own w2 X 30 (cS (toS ls 0) none 0 none 0 none 0)) (Own.step hb2 HX1.out)
 have HQ2:=qh (Own w2 w.heap.size 30 zS) (Own.step hb2 HQ1.out)
 have HB2:=qh (Below w.heap.size w w2) (Below.step hb2 HB1.out qo)
 have HRL:=qh (∀ wx,Only w2.heap.size [X] w2 wx->RS wx 1 A ls.length c (Zam ls)) (λwx ho=>by
  by_cases hn0:0<ls.length
  ·obtain ⟨b,o,rfl,hb,_⟩:=hr.open_.2.2 hn0
   exact ho.rs hr (λx hx=>by have:=hge x hx;simp [gOf] at hx;subst hx;exact ⟨hb,by simp;omega⟩)
  ·exact hr.keep ho.size (λh=>absurd h hn0))
 obtain ⟨B,hB⟩:∃ B,B=w2.heap.size:=⟨_,rfl⟩
 rw [<- hB] at HRL
 have hBX:X<B:=qo
 have HBB:=hdQ hB
 have HS0:=qh (SceneR w2 B [X] (toS ls 0) none 0 none 0 none 0) (SceneR.nil _ _ _ _ rfl rfl rfl)
 clear hr hge hb2 hB
 go_wp2_with fail
 go_loopw [6,7,8,9,14] (λ_ _ _ _ i_ wr=>∃ (k:Nat) (TX:Option Addr) (tc:Nat) (P:Option Addr) (pc:Nat) (Q:Option Addr) (qc:Nat),k<=ls.length/\i_=.int .i64 k/\Own wr X 30 (cS (toS ls k) TX tc P pc Q qc)/\SceneR wr B [X] (toS ls k) TX tc P pc Q qc/\Only B [X] w2 wr) (λ_ _ _ _ i_ _=>ls.length-(RowKit.intOf i_).toNat)
 case atStart=>exact ⟨0,none,0,none,0,none,0,Nat.zero_le _,rfl,HX2.out,HS0.out,Only.refl _ _ _⟩
 case round =>
  obtain ⟨k,TX,tc,P,pc,Q,qc,hk,rfl,ho,hsr,hon⟩:=hrel
  have hz:=hon.size
  have HO:=hdQ ho
  have HSR:=hdQ hsr
  have HON:=hdQ hon
  have HR:=hdQ (HRL.out _ hon)
  have hbw:B<=wr.heap.size:=by rw [HBB.out];exact hz
  have hxw:X<wr.heap.size:=ho.lt
  clear ho hsr hon HX2 HS0
  by_cases hlt:k<ls.length
  ·obtain ⟨b,o,rfl,hbl,hcell⟩:=HR.out.open_.2.2 qo
   have c0:wr.cell? ⟨b,o+k,none⟩=some (str ls[k]):=by rw [hcell k qo,Zfd hlt]
   have i0:(0:Int)<=k:=qo
   have i1:(k:Int)<ls.length:=qo
   have hcl:=HR.out.open_
   have hkl:=hTL.out k hk
   have HPL:=qh ((toS ls k).ps.length<=1048577/\(toS ls k).ss.length<=1048577) ⟨qo,qo⟩
   have HNX:=hdQ (toS_succ hlt)
   have hul:=HLL.out _ (List.getElem_mem hlt)
   have HSA:=qh (∀ wx,Calls Tryz.prog 17 #[str ls[k],.string ⟨#[32]⟩] wx (OutStrsG (splitB 32 ls[k]) wx)) (λwx=>S_SplitAnyG 32 ls[k] wx hul)
   clear hcell hkl HRL hTN hTL
   generalize ls[k]=u at *
   generalize toS ls k=s at *
   by_cases hn0:(wds u).getD 0 []=wCam
   ·have hn:=hn0
    have HNX:=qh (toS ls (k+1)=setCam s (parCam ((wds u).getD 1 []))) (by rw [HNX.out];unfold updS;dsimp only;rw [if_pos hn0])
    clear hn0
    have hv0:(Zam (wds u))[0]? = some (.string ⟨#[99,97,109,101,114,97]⟩):=by have:=(Zd7 u).1;rw [hn] at this;exact this
    have hv1:=(Zd7 u).2
    have HV:=hdQ (And.intro hv0 hv1)
    have HPC:Hid (∀ wx,CB_ Tryz.prog 18 #[str ((wds u).getD 1 [])] wx ((.tuple #[.agg ⟨cCam (setCam s (parCam ((wds u).getD 1 [])))⟩,.bool (parCam ((wds u).getD 1 [])).isSome]))):=hdQ (λwx=>by
     have:=S_ParseCamera ((wds u).getD 1 []) wx (Nat.le_trans (wds_len u) hul)
     unfold outC at this
     rw [cCam_set s] at this
     exact this)
    generalize parCam ((wds u).getD 1 [])=oc at *
    generalize (wds u).getD 1 []=W1 at *
    have hspos:=Zb1 32 u
    have hslen:=Zbe 32 u
    clear hv0 hv1 hn
    go_wp2_with fail
    refine (HSA.out _).mono ?_
    rintro e wa ⟨D,d,rfl,hg,hba⟩
    have hza:=hba.size
    have HG1:=hdQ hg
    have HBA:=hdQ hba
    have hcap:=hg.rs.open_.2.1
    unfold maxLen at hcap
    clear hg hba
    go_wp2_with (at_builtin;refine wpA (wr.heap.size) Tryz.underlying50 T.infoString (Zam (splitB 32 u)) (Zam [[]]) (Zbn _) ?_ ?_ ?_;exact (gwx HG1.out);exact (ltt 1);rintro P9 k9 x9 gA9;have g1:=gA9.1;have g2:=gA9.2.1;have gZ:=gA9.2.2.2.1;(try simp at gZ);rw [Za6] at g1;have HG2:=hdQ g1;have HBX:=qh (Below wr.heap.size wr x9) (Below.trans bll g2);obtain ⟨p1,p2,p3⟩:=g1.rs.open_;obtain ⟨b2,o2,hA',hbl2,hcell2⟩:=p3 qo;subst hA';have q0:=(hcell2 0 qo).trans HV.out.1;have q1:=(hcell2 1 qo).trans HV.out.2;have hbg:=g1.ge b2 (by simp [gOf]);(try simp only [Nat.add_zero] at q0);have i4:(1:Int)<(((splitB 32 u).length+1:Nat):Int):=qo;have i5:(0:Int)<(((splitB 32 u).length+1:Nat):Int):=qo;unfold maxLen at p2;have hx9:X<x9.heap.size:=qo;have HO9:=qh (Own x9 X 30 (cS s TX tc P pc Q qc)) (Own.step HBX.out HO.out);have HR9:=qh (SceneR x9 B [X] s TX tc P pc Q qc) (HSR.out.step HBX.out);have HN9:=qh (Only B [X] w2 x9) (HON.out.thenB qo HBX.out);clear gA9 g1 g2 hcell2)
    refine (HPC.out _).mono ?_
    rintro e w4 ⟨rfl,hb4⟩
    have hz4:=hb4.size
    obtain ⟨w5,hst,hs,hbk,hs5,e1,e2,e3⟩:=Zay (P:=Tryz.prog) (T:=23) (zs:=cCam (setCam s oc)) (k:=0) (Own.step hb4 HO9.out) zz_camI (by show 7<=12;omega) qr
    have HST:=hdQ hst
    have HAT:=qh (OnlyAt X w4 w5) ⟨hbk,hs5,e1,e2,e3⟩
    have HOF:=qh (Own w5 X 30 (cS (setCam s oc) TX tc P pc Q qc)) (by rw [<- cS_camP];exact hs)
    have hrows:=Zfy s oc
    have HSF:=qh (SceneR w5 B [X] (setCam s oc) TX tc P pc Q qc) (((HR9.out.step hb4).at_ HAT.out).same hrows.1 hrows.2.1 hrows.2.2)
    clear hrows
    have HNF:=qh (Only B [X] w2 w5) ((HN9.out.thenB qo hb4).thenAt HAT.out)
    clear hb4 hst hs hbk hs5 e1 e2 e3
    go_wp2_with (refine Zaf rfl 23 (.tmp 34) (.tmp 32) rfl rfl rfl HST.out ?_)
    go_roundw
    case rel=>exact ⟨k+1,TX,tc,P,pc,Q,qc,qo,qg,by rw [HNX.out];exact HOF.out,by rw [HNX.out];exact HSF.out,HNF.out⟩
    case measure=>exact qn
   by_cases hn1:(wds u).getD 0 []=wTex
   ·have hn:=hn1
    have HNX:=qh (toS ls (k+1)=setTex s (parTex ((wds u).getD 1 []))) (by rw [HNX.out];unfold updS;dsimp only;rw [if_neg hn0,if_pos hn1])
    clear hn0 hn1
    have hv0:(Zam (wds u))[0]? = some (.string ⟨#[116,101,120,116,117,114,101]⟩):=by have:=(Zd7 u).1;rw [hn] at this;exact this
    have hv1:=(Zd7 u).2
    have HV:=hdQ (And.intro hv0 hv1)
    have HPT:=qh (∀ wx,Calls Tryz.prog 19 #[str ((wds u).getD 1 [])] wx (Zft (parTex ((wds u).getD 1 [])) wx)) (λwx=>S_ParseTexture ((wds u).getD 1 []) wx (Nat.le_trans (wds_len u) hul))
    rw [Zfl] at HNX
    unfold Zft at HPT
    generalize parTex ((wds u).getD 1 [])=ot at *
    generalize (ot.getD (0,[])).1=lg at *
    generalize (ot.getD (0,[])).2=tx at *
    generalize ot.isSome=bo at *
    generalize (wds u).getD 1 []=W1 at *
    have hspos:=Zb1 32 u
    have hslen:=Zbe 32 u
    clear hv0 hv1 hn
    go_wp2_with fail
    refine (HSA.out _).mono ?_
    rintro e wa ⟨D,d,rfl,hg,hba⟩
    have hza:=hba.size
    have HG1:=hdQ hg
    have HBA:=hdQ hba
    have hcap:=hg.rs.open_.2.1
    unfold maxLen at hcap
    clear hg hba
    go_wp2_with (at_builtin;refine wpA (wr.heap.size) Tryz.underlying50 T.infoString (Zam (splitB 32 u)) (Zam [[]]) (Zbn _) ?_ ?_ ?_;exact (gwx HG1.out);exact (ltt 1);rintro P9 k9 x9 gA9;have g1:=gA9.1;have g2:=gA9.2.1;have gZ:=gA9.2.2.2.1;(try simp at gZ);rw [Za6] at g1;have HG2:=hdQ g1;have HBX:=qh (Below wr.heap.size wr x9) (Below.trans bll g2);obtain ⟨p1,p2,p3⟩:=g1.rs.open_;obtain ⟨b2,o2,hA',hbl2,hcell2⟩:=p3 qo;subst hA';have q0:=(hcell2 0 qo).trans HV.out.1;have q1:=(hcell2 1 qo).trans HV.out.2;have hbg:=g1.ge b2 (by simp [gOf]);(try simp only [Nat.add_zero] at q0);have i4:(1:Int)<(((splitB 32 u).length+1:Nat):Int):=qo;have i5:(0:Int)<(((splitB 32 u).length+1:Nat):Int):=qo;unfold maxLen at p2;have hx9:X<x9.heap.size:=qo;have HO9:=qh (Own x9 X 30 (cS s TX tc P pc Q qc)) (Own.step HBX.out HO.out);have HR9:=qh (SceneR x9 B [X] s TX tc P pc Q qc) (HSR.out.step HBX.out);have HN9:=qh (Only B [X] w2 x9) (HON.out.thenB qo HBX.out);clear gA9 g1 g2 hcell2)
    refine (HPT.out _).mono ?_
    rintro e w4 ⟨A2,c2,rfl,hown,hge2,hb4⟩
    have hz4:=hb4.size
    obtain ⟨w5,hst,hs,hbk,hs5,e1,e2,e3⟩:=Zay (P:=Tryz.prog) (T:=26) (zs:=[.int .i64 lg,.slice A2 tx.length c2]) (k:=7) (Own.step hb4 HO9.out) zz_texI (by show 9<=12;omega) qr
    have HST:=hdQ hst
    have HAT:=qh (OnlyAt X w4 w5) ⟨hbk,hs5,e1,e2,e3⟩
    have HOF:=qh (Own w5 X 30 (cS { s with log:=lg,tex:=tx } A2 c2 P pc Q qc)) hs
    have HSF:=qh (SceneR w5 B [X] { s with log:=lg,tex:=tx } A2 c2 P pc Q qc) ((HR9.out.setTex hb4 (by intro z hz;simp at hz;omega) qo lg hown hge2).at_ HAT.out)
    have HNF:=qh (Only B [X] w2 w5) ((HN9.out.thenB qo hb4).thenAt HAT.out)
    clear hb4 hst hs hbk hs5 e1 e2 e3 hown hge2
    go_wp2_with (refine Zaf rfl 26 (.tmp 44) (.tmp 42) rfl rfl rfl HST.out ?_)
    go_roundw
    case rel=>exact ⟨k+1,A2,c2,P,pc,Q,qc,qo,qg,by rw [HNX.out];exact HOF.out,by rw [HNX.out];exact HSF.out,HNF.out⟩
    case measure=>exact qn
   by_cases hn2:(wds u).getD 0 []=wSide
   ·have hn:=hn2
    have HNX:=qh (toS ls (k+1)={ s with side:=(parseI ((wds u).getD 1 [])).getD 0 }) (by rw [HNX.out];unfold updS;dsimp only;rw [if_neg hn0,if_neg hn1,if_pos hn2])
    clear hn0 hn1 hn2
    have hv0:(Zam (wds u))[0]? = some (.string ⟨#[115,105,100,101]⟩):=by have:=(Zd7 u).1;rw [hn] at this;exact this
    have hv1:=(Zd7 u).2
    have HV:=hdQ (And.intro hv0 hv1)
    have HPI:Hid (∀ wx,CB_ Tryz.prog 20 #[str ((wds u).getD 1 [])] wx ((.tuple #[.int .i64 ((parseI ((wds u).getD 1 [])).getD 0),.bool (parseI ((wds u).getD 1 [])).isSome]))):=hdQ (λwx=>Zeh ((wds u).getD 1 []) wx (Nat.le_trans (wds_len u) qo))
    generalize parseI ((wds u).getD 1 [])=oi at *
    generalize oi.getD 0=iv at *
    generalize (wds u).getD 1 []=W1 at *
    have hspos:=Zb1 32 u
    have hslen:=Zbe 32 u
    clear hv0 hv1 hn
    go_wp2_with fail
    refine (HSA.out _).mono ?_
    rintro e wa ⟨D,d,rfl,hg,hba⟩
    have hza:=hba.size
    have HG1:=hdQ hg
    have HBA:=hdQ hba
    have hcap:=hg.rs.open_.2.1
    unfold maxLen at hcap
    clear hg hba
    go_wp2_with (at_builtin;refine wpA (wr.heap.size) Tryz.underlying50 T.infoString (Zam (splitB 32 u)) (Zam [[]]) (Zbn _) ?_ ?_ ?_;exact (gwx HG1.out);exact (ltt 1);rintro P9 k9 x9 gA9;have g1:=gA9.1;have g2:=gA9.2.1;have gZ:=gA9.2.2.2.1;(try simp at gZ);rw [Za6] at g1;have HG2:=hdQ g1;have HBX:=qh (Below wr.heap.size wr x9) (Below.trans bll g2);obtain ⟨p1,p2,p3⟩:=g1.rs.open_;obtain ⟨b2,o2,hA',hbl2,hcell2⟩:=p3 qo;subst hA';have q0:=(hcell2 0 qo).trans HV.out.1;have q1:=(hcell2 1 qo).trans HV.out.2;have hbg:=g1.ge b2 (by simp [gOf]);(try simp only [Nat.add_zero] at q0);have i4:(1:Int)<(((splitB 32 u).length+1:Nat):Int):=qo;have i5:(0:Int)<(((splitB 32 u).length+1:Nat):Int):=qo;unfold maxLen at p2;have hx9:X<x9.heap.size:=qo;have HO9:=qh (Own x9 X 30 (cS s TX tc P pc Q qc)) (Own.step HBX.out HO.out);have HR9:=qh (SceneR x9 B [X] s TX tc P pc Q qc) (HSR.out.step HBX.out);have HN9:=qh (Only B [X] w2 x9) (HON.out.thenB qo HBX.out);clear gA9 g1 g2 hcell2)
    refine (HPI.out _).mono ?_
    rintro e w4 ⟨rfl,hb4⟩
    have hz4:=hb4.size
    have HO4:=qh (Own w4 X 30 (cS s TX tc P pc Q qc)) (Own.step hb4 HO9.out)
    have HR4:=qh (SceneR w4 B [X] s TX tc P pc Q qc) (HR9.out.step hb4)
    have HN4:=qh (Only B [X] w2 w4) (HN9.out.thenB qo hb4)
    have x11:w4.cell? ⟨X,11,none⟩=some (.int .i64 s.side):=HO4.out.cell 11
    have f11:=HO4.out.frozen 11
    have l11:=HO4.out.lt
    have HOF:=qh (Own (w4.setCell ⟨X,11,none⟩ (.int .i64 iv)) X 30 (cS { s with side:=iv } TX tc P pc Q qc)) (HO4.out.set_ 11 (.int .i64 iv))
    have HSF:=qh (SceneR (w4.setCell ⟨X,11,none⟩ (.int .i64 iv)) B [X] { s with side:=iv } TX tc P pc Q qc) ((HR4.out.at_ (OnlyAt.setCell _ _ _ _)).same rfl rfl rfl)
    have HNF:=qh (Only B [X] w2 (w4.setCell ⟨X,11,none⟩ (.int .i64 iv))) (HN4.out.thenAt (OnlyAt.setCell _ _ _ _))
    clear hb4
    go_wp2_with fail
    go_roundw
    case rel=>exact ⟨k+1,TX,tc,P,pc,Q,qc,qo,qg,by rw [HNX.out];exact HOF.out,by rw [HNX.out];exact HSF.out,HNF.out⟩
    case measure=>exact qn
   by_cases hn3:(wds u).getD 0 []=wShad
   ·have hn:=hn3
    have HNX:=qh (toS ls (k+1)={ s with ps:=s.ps++[(parF (join ((wds u).drop 1) [32])).1] }) (by rw [HNX.out];unfold updS;dsimp only;rw [if_neg hn0,if_neg hn1,if_neg hn2,if_pos hn3])
    clear hn0 hn1 hn2 hn3
    have hv0:(Zam (wds u))[0]? = some (.string ⟨#[115,104,97,100,101,114]⟩):=by have:=(Zd7 u).1;rw [hn] at this;exact this
    have hv1:=(Zd7 u).2
    have HV:=hdQ (And.intro hv0 hv1)
    have hjl:(join ((wds u).drop 1) [32]).length<=1048576:=Nat.le_trans Zf6.1 hul
    have hdl:((wds u).drop 1).length=(splitB 32 u).length:=by simp [wds]
    have HJN:=qh (∀ (wx:World) (A:Option Addr) (c:Nat),RS wx 1 A (splitB 32 u).length c (Zam ((wds u).drop 1))->Calls Tryz.prog 22 #[.slice A (splitB 32 u).length c,.string ⟨#[32]⟩] wx λe w'=>e=.returned (str (join ((wds u).drop 1) [32]))/\wx=w') (λwx A c h=>by rw [<- hdl] at h ⊢;exact S_Join (sep:=[32]) wx h (Nat.le_trans hjl qd) qd)
    have HPS:=qh (∀ wx,Calls Tryz.prog 21 #[str (join ((wds u).drop 1) [32])] wx (Zbr (join ((wds u).drop 1) [32]) wx)) (λwx=>S_Parse wx hjl)
    have HDR:=qh ((Zam (wds u)).drop 1=Zam ((wds u).drop 1)) (strs_drop _ _)
    unfold Zbr at HPS
    generalize parF (join ((wds u).drop 1) [32])=pr at *
    generalize join ((wds u).drop 1) [32]=jn at *
    generalize pr.1=p at *
    generalize pr.2=po at *
    clear hjl hdl
    generalize (wds u).getD 1 []=W1 at *
    have hspos:=Zb1 32 u
    have hslen:=Zbe 32 u
    clear hv0 hv1 hn
    go_wp2_with fail
    refine (HSA.out _).mono ?_
    rintro e wa ⟨D,d,rfl,hg,hba⟩
    have hza:=hba.size
    have HG1:=hdQ hg
    have HBA:=hdQ hba
    have hcap:=hg.rs.open_.2.1
    unfold maxLen at hcap
    clear hg hba
    go_wp2_with (at_builtin;refine wpA (wr.heap.size) Tryz.underlying50 T.infoString (Zam (splitB 32 u)) (Zam [[]]) (Zbn _) ?_ ?_ ?_;exact (gwx HG1.out);exact (ltt 1);rintro P9 k9 x9 gA9;have g1:=gA9.1;have g2:=gA9.2.1;have gZ:=gA9.2.2.2.1;(try simp at gZ);rw [Za6] at g1;have HG2:=hdQ g1;have HBX:=qh (Below wr.heap.size wr x9) (Below.trans bll g2);obtain ⟨p1,p2,p3⟩:=g1.rs.open_;obtain ⟨b2,o2,hA',hbl2,hcell2⟩:=p3 qo;subst hA';have q0:=(hcell2 0 qo).trans HV.out.1;have q1:=(hcell2 1 qo).trans HV.out.2;have hbg:=g1.ge b2 (by simp [gOf]);(try simp only [Nat.add_zero] at q0);have i4:(1:Int)<(((splitB 32 u).length+1:Nat):Int):=qo;have i5:(0:Int)<(((splitB 32 u).length+1:Nat):Int):=qo;unfold maxLen at p2;have hx9:X<x9.heap.size:=qo;have HO9:=qh (Own x9 X 30 (cS s TX tc P pc Q qc)) (Own.step HBX.out HO.out);have HR9:=qh (SceneR x9 B [X] s TX tc P pc Q qc) (HSR.out.step HBX.out);have HN9:=qh (Only B [X] w2 x9) (HON.out.thenB qo HBX.out);have HSW:=qh (RS x9 1 (some ⟨b2,o2+1,none⟩) (splitB 32 u).length (k9-1) (Zam ((wds u).drop 1))) (by have:=g1.rs.part rfl 1 ((splitB 32 u).length+1) (k9-1) qo qo qo (by unfold maxLen;omega);rw [Nat.one_mul,HDR.out,List.take_of_length_le qs] at this;exact this);clear gA9 g1 g2 hcell2)
    refine (HJN.out _ _ _ HSW.out).mono ?_
    rintro e w3' ⟨rfl,rfl⟩
    go_wp2_with fail
    refine (HPS.out _).mono ?_
    rintro e w4 ⟨NA,nc,AA,ac,rfl,hpm,hb4⟩
    have hz4:=hb4.size
    have HBV:=hdQ hb4
    have HPM:=hdQ hpm
    obtain ⟨cs,lo,hi,g1,g2,g3,g4,g5⟩:=HR9.out.ps
    have HC1:=hdQ g1
    have HC2:=hdQ g2
    have HC3:=hdQ g3
    have HC4:=hdQ g4
    have HC5:=hdQ g5
    have HGW:=qh (Zah (w4.alloc (.cells #[.slice NA p.1.length nc,.slice AA p.2.length ac] 62)) B 62 2 P s.ps.length pc cs) ((Zah.step hb4 g1).alloc _)
    have hXP:X∉gOf P:=g5 X qs
    have HO4:=qh (Own (w4.alloc (.cells #[.slice NA p.1.length nc,.slice AA p.2.length ac] 62)) X 30 (cS s TX tc P pc Q qc)) (Own.alloc (Own.step hb4 HO9.out) _)
    have HBX4:=qh (Own (w4.alloc (.cells #[.slice NA p.1.length nc,.slice AA p.2.length ac] 62)) w4.heap.size 62 [.slice NA p.1.length nc,.slice AA p.2.length ac]) (Own.new w4 _ #[_,_])
    have HN4:=qh (Only B [X] w2 (w4.alloc (.cells #[.slice NA p.1.length nc,.slice AA p.2.length ac] 62))) ((HN9.out.thenB qo hb4).thenB qo ((Below.refl _ _).alloc (Nat.le_refl _) _))
    have HV4:=qh (Below w4.heap.size w4 (w4.alloc (.cells #[.slice NA p.1.length nc,.slice AA p.2.length ac] 62))) ((Below.refl _ _).alloc (Nat.le_refl _) _)
    have e9:w4.cell? ⟨X,9,none⟩=some (.slice P s.ps.length pc):=(Own.step hb4 HO9.out).cell 9
    have ef9:=(Own.step hb4 HO9.out).frozen 9
    have hx4:X<w4.heap.size:=qo
    have hnx4:¬ X=w4.heap.size:=qo
    have hnx5:¬ w4.heap.size=X:=qo
    have HBW:=qh (B<=w4.heap.size) qo
    have hpl:=HPL.out
    clear hb4 hpm g1 g2 g3 g4 g5
    go_wp2_with (at_builtin;refine wpA (B) Tryz.underlying27 T.infoProgA (cs) ([.slice NA p.1.length nc,.slice AA p.2.length ac]) (prog_one _ _ _ _ _ _) ?_ ?_ ?_;exact (gwx HGW.out);exact (ltt 1);rintro P7 k7 x7 gA7;have hsa:=gA7.2.2.2.1;(try simp at hsa);have HSR7:=qh (SceneR x7 B [X] { s with ps:=s.ps++[p] } TX tc P7 k7 Q qc) (HR9.out.prog (by intro z hz;simp at hz;omega) HC1.out HC2.out HC3.out HC4.out HC5.out qo HBV.out HPM.out (Below.trans HV4.out bll) gA7);have ho7:Own x7 X 30 (cS s TX tc P pc Q qc):=(gA7.2.2.1.block X (by simp;omega) (by cases P<;>simp_all [gOf])).trans (Own.alloc HO4.out _);have HO7:=hdQ ho7;have HN7:=qh (Only B [X] w2 x7) ((HN4.out.thenB (by simp;omega) ((Below.refl _ _).alloc (Nat.le_refl _) _)).trans (Only.of_below gA7.2.1 []) (Nat.le_refl _) qs);have m9:x7.cell? ⟨X,9,none⟩=some (.slice P s.ps.length pc):=ho7.cell 9;have mf:=ho7.frozen 9;have ml:=ho7.lt;clear gA7 ho7)
    have HOF:=qh (Own (x7.setCell ⟨X,9,none⟩ (.slice P7 (s.ps.length+1) k7)) X 30 (cS { s with ps:=s.ps++[p] } TX tc P7 k7 Q qc)) (by rw [<- cS_ps];exact HO7.out.set_ 9 _)
    have HSF:=qh (SceneR (x7.setCell ⟨X,9,none⟩ (.slice P7 (s.ps.length+1) k7)) B [X] { s with ps:=s.ps++[p] } TX tc P7 k7 Q qc) (HSR7.out.at_ (OnlyAt.setCell _ _ _ _))
    have HNF:=qh (Only B [X] w2 (x7.setCell ⟨X,9,none⟩ (.slice P7 (s.ps.length+1) k7))) (HN7.out.thenAt (OnlyAt.setCell _ _ _ _))
    go_roundw
    case rel=>exact ⟨k+1,TX,tc,P7,k7,Q,qc,qo,qg,by rw [HNX.out];exact HOF.out,by rw [HNX.out];exact HSF.out,HNF.out⟩
    case measure=>exact qn
   by_cases hn4:(wds u).getD 0 []=wSurf
   ·have hn:=hn4
    have HNX:=qh (toS ls (k+1)={ s with ss:=s.ss++[parSurf (splitB 32 u).tail] }) (by rw [HNX.out];unfold updS;dsimp only;rw [if_neg hn0,if_neg hn1,if_neg hn2,if_neg hn3,if_pos hn4])
    clear hn0 hn1 hn2 hn3 hn4
    have hv0:(Zam (wds u))[0]? = some (.string ⟨#[115,117,114,102,97,99,101]⟩):=by have:=(Zd7 u).1;rw [hn] at this;exact this
    have hv1:=(Zd7 u).2
    have HV:=hdQ (And.intro hv0 hv1)
    have HLS:=qh (∀ (wx:World) (A:Option Addr) (c:Nat),RS wx 1 A (splitB 32 u).length c (Zam (splitB 32 u))->CB_ Tryz.prog 23 #[.slice A (splitB 32 u).length c] wx (.agg ⟨Zfq (parSurf (splitB 32 u).tail)⟩)) (λwx A c h=>by
     have hjl:=Nat.le_trans (Zf6 (l:=u)).2 hul
     have hne:=(Zcm 32 u).2.2
     generalize splitB 32 u=ws at *
     match ws,hne with
     | a::tl,_=>exact S_l20Surface a tl wx h hjl)
    have HTK:=qh ((Zam (wds u)).take (splitB 32 u).length=Zam (splitB 32 u)) (by rw [strs_take,List.take_left])
    generalize parSurf (splitB 32 u).tail=x at *
    generalize (wds u).getD 1 []=W1 at *
    have hspos:=Zb1 32 u
    have hslen:=Zbe 32 u
    clear hv0 hv1 hn
    go_wp2_with fail
    refine (HSA.out _).mono ?_
    rintro e wa ⟨D,d,rfl,hg,hba⟩
    have hza:=hba.size
    have HG1:=hdQ hg
    have HBA:=hdQ hba
    have hcap:=hg.rs.open_.2.1
    unfold maxLen at hcap
    have hsl3:(splitB 32 u).length<=1048577:=qo
    clear hg hba
    go_wp2_with (at_builtin;refine wpA (wr.heap.size) Tryz.underlying50 T.infoString (Zam (splitB 32 u)) (Zam [[]]) (Zbn _) ?_ ?_ ?_;exact (gwx HG1.out);exact (ltt 1);rintro P9 k9 x9 gA9;have g1:=gA9.1;have g2:=gA9.2.1;have gZ:=gA9.2.2.2.1;(try simp at gZ);rw [Za6] at g1;have HG2:=hdQ g1;have HBX:=qh (Below wr.heap.size wr x9) (Below.trans bll g2);obtain ⟨p1,p2,p3⟩:=g1.rs.open_;obtain ⟨b2,o2,hA',hbl2,hcell2⟩:=p3 qo;subst hA';have q0:=(hcell2 0 qo).trans HV.out.1;have q1:=(hcell2 1 qo).trans HV.out.2;have hbg:=g1.ge b2 (by simp [gOf]);(try simp only [Nat.add_zero] at q0);have i4:(1:Int)<(((splitB 32 u).length+1:Nat):Int):=qo;have i5:(0:Int)<(((splitB 32 u).length+1:Nat):Int):=qo;unfold maxLen at p2;have hx9:X<x9.heap.size:=qo;have HO9:=qh (Own x9 X 30 (cS s TX tc P pc Q qc)) (Own.step HBX.out HO.out);have HR9:=qh (SceneR x9 B [X] s TX tc P pc Q qc) (HSR.out.step HBX.out);have HN9:=qh (Only B [X] w2 x9) (HON.out.thenB qo HBX.out);have e10:x9.cell? ⟨X,10,none⟩=some (.slice Q s.ss.length qc):=HO9.out.cell 10;have ef10:=HO9.out.frozen 10;have hsw:IntKind.i64.wrap ((splitB 32 u).length:Int)=(splitB 32 u).length:=IntWalk.i64_in _ qo;have i6:((splitB 32 u).length:Int)<=(k9:Int):=qo;have HSW:=qh (RS x9 1 (some ⟨b2,o2,none⟩) (splitB 32 u).length k9 (Zam (splitB 32 u))) (by have:=g1.rs.head (m:=(splitB 32 u).length) qo;rw [HTK.out] at this;exact this);clear gA9 g1 g2 hcell2)
    refine Zcw (S:=(λw'=>w'.cell? ⟨X,10,none⟩=some (.slice Q s.ss.length qc)/\w'.frozen? ⟨X,10,none⟩=false)) 11 kr (by (try dsimp only);refine ⟨?_, ?_⟩<;>(go_simp;done)) (λhHeld=>?_)
    refine tkM 0 ?_
    refine tkM 1 ?_
    refine tkM 2 ?_
    refine tkM 3 ?_
    refine tkM 4 ?_
    refine tkM 5 ?_
    refine tkM 6 ?_
    refine Zag (i:=7) rfl kr (λK7 hK7=>?_)
    go_simp
    (go_at_call 23;(with_reducible refine (HLS.out _ _ _ (HSW.out.drew)).mono ?_);rintro e w4 ⟨rfl,hb4⟩)
    have hz4:=hb4.size
    (try simp at hz4)
    have HO4:=qh (Own w4 X 30 (cS s TX tc P pc Q qc)) (Own.step hb4 (Own.drew HO9.out))
    have HR4:=qh (SceneR w4 B [X] s TX tc P pc Q qc) ((HR9.out.step (w':=x9.drew) bll).step hb4)
    have HN4:=qh (Only B [X] w2 w4) ((HN9.out.drew).thenB omm hb4)
    have z10:w4.cell? ⟨X,10,none⟩=some (.slice Q s.ss.length qc):=HO4.out.cell 10
    have zf10:=HO4.out.frozen 10
    have hx4:=HO4.out.lt
    have hpl:=HPL.out
    clear hb4
    try go_wp2_with fail
    refine hK7.out _ _ (λ_=>(by (try dsimp only);refine ⟨?_, ?_⟩<;>(go_simp;done))) (λhHeld7=>?_)
    have hX7:=hHeld7 qd
    refine Zag (i:=8) rfl kr (λK8 hK8=>?_)
    refine step_oneE rfl _ _ rfl rfl (one_surf x _) ?_
    refine hK8.out _ _ (λ_=>(by (try dsimp only);refine ⟨?_, ?_⟩<;>(go_simp;done))) (λhHeld8=>?_)
    have hX8:=hHeld8 qd
    refine Zag (i:=9) rfl kr (λK9 hK9=>?_)
    (refine Zea qr _ _ 28 qr (B) 45 (.agg ⟨z26⟩) 26 208 Tryz.underlying28 T.infoSurf3 rfl qd (xs:=rSurf s.ss) qr ?_ (ys:=Zfq x) qr ?_ (eSurf_one _) ?_ ?_ ?_ ?_;(exact (gwx HR4.out.ss));(exact (ltt 1));(unfold maxLen;omega);(omega);(first|omega|(simp<;>omega));rintro P7 k7 x7 gA7)
    have hsa:=gA7.2.2.2.1
    (try simp at hsa)
    have HSR7:=qh (SceneR x7 B [X] { s with ss:=s.ss++[x] } TX tc P pc P7 k7) ((HR4.out.step bll).surf (by intro z hz;simp at hz;subst hz;first|omega|(simp<;>omega)) gA7)
    have hXQ:X∉gOf Q:=λq=>HR4.out.ssz X q qs
    have ho2:Own x7 X 30 (cS s TX tc P pc Q qc):=(gA7.2.2.1.block X (by simp;omega) (by cases Q<;>simp_all [gOf])).trans (Own.alloc HO4.out _)
    have HO7:=hdQ ho2
    have HN7:=qh (Only B [X] w2 x7) ((HN4.out.thenB omm ((Below.refl _ _).alloc (Nat.le_refl _) _)).trans (Only.of_below gA7.2.1 []) (Nat.le_refl _) qs)
    have k10:x7.cell? ⟨X,10,none⟩=some (.slice Q s.ss.length qc):=ho2.cell 10
    have kf:=ho2.frozen 10
    have kl:=ho2.lt
    clear gA7 ho2
    refine hK9.out _ _ (λ_=>(by (try dsimp only);refine ⟨?_, ?_⟩<;>(go_simp;done))) (λhHeld9=>?_)
    have hX9:=hHeld9 qd
    refine Zag (i:=10) rfl kr (λK10 hK10=>?_)
    go_simp
    refine hK10.out _ _ (λ_=>hX9) (λhHeld10=>?_)
    have hX10:=hHeld10 qd
    refine Zag (i:=11) rfl kr (λK11 hK11=>?_)
    go_simp
    refine hK11.out _ _ (λh=>absurd rfl h) (λhHeld11=>?_)
    refine Zcx kr ?_ _
    have HOF:=qh (Own (x7.setCell ⟨X,10,none⟩ (.slice P7 (s.ss.length+1) k7)) X 30 (cS { s with ss:=s.ss++[x] } TX tc P pc P7 k7)) (by rw [<- cS_ss];exact HO7.out.set_ 10 _)
    have HSF:=qh (SceneR (x7.setCell ⟨X,10,none⟩ (.slice P7 (s.ss.length+1) k7)) B [X] { s with ss:=s.ss++[x] } TX tc P pc P7 k7) (HSR7.out.at_ (OnlyAt.setCell _ _ _ _))
    have HNF:=qh (Only B [X] w2 (x7.setCell ⟨X,10,none⟩ (.slice P7 (s.ss.length+1) k7))) (HN7.out.thenAt (OnlyAt.setCell _ _ _ _))
    clear hX7 hX8 hX9 hX10 hHeld
    go_wp2_with fail
    go_roundw
    case rel=>exact ⟨k+1,TX,tc,P,pc,P7,k7,qo,qg,by rw [HNX.out];exact HOF.out,by rw [HNX.out];exact HSF.out,HNF.out⟩
    case measure=>exact qn
   have HNX:=qh (toS ls (k+1)=s) (by rw [HNX.out];unfold updS;dsimp only;rw [if_neg hn0,if_neg hn1,if_neg hn2,if_neg hn3,if_neg hn4])
   have kk0:((wds u).getD 0 []==[99,97,109,101,114,97])=false:=by rw [beq_eq_false_iff_ne];exact hn0
   have kk1:((wds u).getD 0 []==[116,101,120,116,117,114,101])=false:=by rw [beq_eq_false_iff_ne];exact hn1
   have kk2:((wds u).getD 0 []==[115,105,100,101])=false:=by rw [beq_eq_false_iff_ne];exact hn2
   have kk3:((wds u).getD 0 []==[115,104,97,100,101,114])=false:=by rw [beq_eq_false_iff_ne];exact hn3
   have kk4:((wds u).getD 0 []==[115,117,114,102,97,99,101])=false:=by rw [beq_eq_false_iff_ne];exact hn4
   have hv0:=(Zd7 u).1
   have hv1:=(Zd7 u).2
   generalize (wds u).getD 0 []=W0 at *
   clear hn0 hn1 hn2 hn3 hn4
   have HV:=hdQ (And.intro hv0 hv1)
   generalize (wds u).getD 1 []=W1 at *
   have hspos:=Zb1 32 u
   have hslen:=Zbe 32 u
   clear hv0 hv1
   go_wp2_with fail
   refine (HSA.out _).mono ?_
   rintro e wa ⟨D,d,rfl,hg,hba⟩
   have hza:=hba.size
   have HG1:=hdQ hg
   have HBA:=hdQ hba
   have hcap:=hg.rs.open_.2.1
   unfold maxLen at hcap
   clear hg hba
   go_wp2_with (at_builtin;refine wpA (wr.heap.size) Tryz.underlying50 T.infoString (Zam (splitB 32 u)) (Zam [[]]) (Zbn _) ?_ ?_ ?_;exact (gwx HG1.out);exact (ltt 1);rintro P9 k9 x9 gA9;have g1:=gA9.1;have g2:=gA9.2.1;have gZ:=gA9.2.2.2.1;(try simp at gZ);rw [Za6] at g1;have HG2:=hdQ g1;have HBX:=qh (Below wr.heap.size wr x9) (Below.trans bll g2);obtain ⟨p1,p2,p3⟩:=g1.rs.open_;obtain ⟨b2,o2,hA',hbl2,hcell2⟩:=p3 qo;subst hA';have q0:=(hcell2 0 qo).trans HV.out.1;have q1:=(hcell2 1 qo).trans HV.out.2;have hbg:=g1.ge b2 (by simp [gOf]);(try simp only [Nat.add_zero] at q0);have i4:(1:Int)<(((splitB 32 u).length+1:Nat):Int):=qo;have i5:(0:Int)<(((splitB 32 u).length+1:Nat):Int):=qo;unfold maxLen at p2;have hx9:X<x9.heap.size:=qo;have HO9:=qh (Own x9 X 30 (cS s TX tc P pc Q qc)) (Own.step HBX.out HO.out);have HR9:=qh (SceneR x9 B [X] s TX tc P pc Q qc) (HSR.out.step HBX.out);have HN9:=qh (Only B [X] w2 x9) (HON.out.thenB qo HBX.out);clear gA9 g1 g2 hcell2)
   have HOF:=HO9
   have HSF:=HR9
   have HNF:=HN9
   go_roundw
   case rel=>exact ⟨k+1,TX,tc,P,pc,Q,qc,qo,qg,by rw [HNX.out];exact HOF.out,by rw [HNX.out];exact HSF.out,HNF.out⟩
   case measure=>exact qn
  ·obtain rfl:k=ls.length:=by omega
   have HN:=hdQ (hTN.out ls.length (Nat.le_refl _))
   have hng2:¬ (ls.length:Int)<(ls.length:Int):=qo
   clear hTN hTL HRL HR
   generalize toS ls ls.length=s at *
   have HSI:=qh (∀ wx,Below wr.heap.size wr wx->SceneIn wx s TX tc P pc Q qc) (λwx hbx=>by
    have h1:=HSR.out.step hbx
    have hB:=h1.ps.prB HN.out
    have hL:=h1.lift hB
    exact ⟨hL.tex,hL.ps.progs hB,hL.ss.surfs⟩)
   have HFS:=qh (∀ wx,Below wr.heap.size wr wx->CB_ Tryz.prog 24 #[vScene s TX tc P pc Q qc] wx (str (Zbj s))) (λwx hbx=>S_FormatScene wx (HSI.out wx hbx))
   have HR0:=qh (Own wr w.heap.size 30 zS) (HON.out.own HQ2.out qo (by simp;omega))
   have HBR:=qh (Below w.heap.size w wr) (Below.trans HB2.out (HON.out.below qo (by intro x hx;simp at hx;omega)))
   obtain ⟨T_,hT_⟩:=qv (Zbj s)
   rw [hT_] at HFS HBS
   clear hT_
   have x0:wr.cell? ⟨X,0,none⟩=some (.int .i64 s.a):=HO.out.cell 0
   have x1:wr.cell? ⟨X,1,none⟩=some (.int .i64 s.b):=HO.out.cell 1
   have x2:wr.cell? ⟨X,2,none⟩=some (.int .i64 s.c):=HO.out.cell 2
   have x3:wr.cell? ⟨X,3,none⟩=some (.int .i64 s.d):=HO.out.cell 3
   have x4:wr.cell? ⟨X,4,none⟩=some (.bool s.e):=HO.out.cell 4
   have x5:wr.cell? ⟨X,5,none⟩=some (.int .i64 s.f):=HO.out.cell 5
   have x6:wr.cell? ⟨X,6,none⟩=some (.int .i64 s.g):=HO.out.cell 6
   have x7:wr.cell? ⟨X,7,none⟩=some (.int .i64 s.log):=HO.out.cell 7
   have x8:wr.cell? ⟨X,8,none⟩=some (.slice TX s.tex.length tc):=HO.out.cell 8
   have x9:wr.cell? ⟨X,9,none⟩=some (.slice P s.ps.length pc):=HO.out.cell 9
   have x10:wr.cell? ⟨X,10,none⟩=some (.slice Q s.ss.length qc):=HO.out.cell 10
   have x11:wr.cell? ⟨X,11,none⟩=some (.int .i64 s.side):=HO.out.cell 11
   by_cases hnil:T_=[]
   ·subst hnil
    obtain ⟨rfl,rfl⟩:BS=false/\RS_=Zdp:=by
     have h1:=HBS.out
     rw [show (decide (([]:List UInt8)≠[]))=false by decide,Bool.false_and] at h1
     subst h1
     exact ⟨rfl,by rw [<- HRS.out];rfl⟩
    go_wp2_with fail
    refine (HFS.out _ (Below.refl _ _)).mono ?_
    rintro e w3 ⟨rfl,hb3⟩
    have hz3:=hb3.size
    have HQ3:=qh (Own w3 w.heap.size 30 zS) (Own.step hb3 HR0.out)
    obtain ⟨w4,hst,hs,hbk,hs4,e1,e2,e3⟩:=Zay (P:=Tryz.prog) (T:=30) (zs:=zS) (k:=0) HQ3.out Zce (by show 12<=12;omega) qr
    have HST4:=hdQ hst
    have HB4:=qh (Below w.heap.size w w4) (Below.trans (Below.step hb3 HBR.out qo) ⟨e1,e2,e3,qo,λb h=>hbk b qo⟩)
    have HO4:=qh (Own w4 w.heap.size 30 zS) hs
    have y0:w4.cell? ⟨w.heap.size,0,none⟩=some (.int .i64 0):=HO4.out.cell 0
    have y1:w4.cell? ⟨w.heap.size,1,none⟩=some (.int .i64 0):=HO4.out.cell 1
    have y2:w4.cell? ⟨w.heap.size,2,none⟩=some (.int .i64 0):=HO4.out.cell 2
    have y3:w4.cell? ⟨w.heap.size,3,none⟩=some (.int .i64 0):=HO4.out.cell 3
    have y4:w4.cell? ⟨w.heap.size,4,none⟩=some (.bool false):=HO4.out.cell 4
    have y5:w4.cell? ⟨w.heap.size,5,none⟩=some (.int .i64 0):=HO4.out.cell 5
    have y6:w4.cell? ⟨w.heap.size,6,none⟩=some (.int .i64 0):=HO4.out.cell 6
    have y7:w4.cell? ⟨w.heap.size,7,none⟩=some (.int .i64 0):=HO4.out.cell 7
    have y8:w4.cell? ⟨w.heap.size,8,none⟩=some (.slice none 0 0):=HO4.out.cell 8
    have y9:w4.cell? ⟨w.heap.size,9,none⟩=some (.slice none 0 0):=HO4.out.cell 9
    have y10:w4.cell? ⟨w.heap.size,10,none⟩=some (.slice none 0 0):=HO4.out.cell 10
    have y11:w4.cell? ⟨w.heap.size,11,none⟩=some (.int .i64 0):=HO4.out.cell 11
    have yf:=HO4.out.frozen
    have yl:=HO4.out.lt
    clear hb3 hst hs hbk hs4 e1 e2 e3
    go_wp2_with (refine Zaf rfl 30 (.tmp 2) (.tmp 93) rfl rfl rfl HST4.out ?_)
    exact bodyPost_ret (v:=.tuple #[.agg ⟨zS⟩,.bool false]) (by simp [results,Tryz.results5,go_sem, *];rfl) rfl (Zdm.zero HB4.out)
   ·have hne0:(T_==[])=false:=by simpa using hnil
    go_wp2_with fail
    refine (HFS.out _ (Below.refl _ _)).mono ?_
    rintro e w3 ⟨rfl,hb3⟩
    have hz3:=hb3.size
    have HB3:=hdQ hb3
    have HO3:=qh (Own w3 X 30 (cS s TX tc P pc Q qc)) (Own.step hb3 HO.out)
    have y0:w3.cell? ⟨X,0,none⟩=some (.int .i64 s.a):=HO3.out.cell 0
    have y1:w3.cell? ⟨X,1,none⟩=some (.int .i64 s.b):=HO3.out.cell 1
    have y2:w3.cell? ⟨X,2,none⟩=some (.int .i64 s.c):=HO3.out.cell 2
    have y3:w3.cell? ⟨X,3,none⟩=some (.int .i64 s.d):=HO3.out.cell 3
    have y4:w3.cell? ⟨X,4,none⟩=some (.bool s.e):=HO3.out.cell 4
    have y5:w3.cell? ⟨X,5,none⟩=some (.int .i64 s.f):=HO3.out.cell 5
    have y6:w3.cell? ⟨X,6,none⟩=some (.int .i64 s.g):=HO3.out.cell 6
    have y7:w3.cell? ⟨X,7,none⟩=some (.int .i64 s.log):=HO3.out.cell 7
    have y8:w3.cell? ⟨X,8,none⟩=some (.slice TX s.tex.length tc):=HO3.out.cell 8
    have y9:w3.cell? ⟨X,9,none⟩=some (.slice P s.ps.length pc):=HO3.out.cell 9
    have y10:w3.cell? ⟨X,10,none⟩=some (.slice Q s.ss.length qc):=HO3.out.cell 10
    have y11:w3.cell? ⟨X,11,none⟩=some (.int .i64 s.side):=HO3.out.cell 11
    clear hb3
    go_wp2_with fail
    refine (HFS.out _ HB3.out).mono ?_
    rintro e w4 ⟨rfl,hb4⟩
    have hz4:=hb4.size
    have HO4:=qh (Own w4 X 30 (cS s TX tc P pc Q qc)) (Own.step hb4 HO3.out)
    have HQ4:=qh (Own w4 w.heap.size 30 zS) (Own.step hb4 (Own.step HB3.out HR0.out))
    have HB4:=qh (Below w.heap.size w w4) (Below.step hb4 (Below.step HB3.out HBR.out qo) qo)
    have HS4:=qh (SceneR w4 B [X] s TX tc P pc Q qc) ((HSR.out.step HB3.out).step hb4)
    clear hb4
    by_cases heq:T_=t
    ·have hne:(T_ != t)=false:=by simpa using heq
     obtain ⟨rfl,rfl⟩:BS=true/\s=RS_:=by
      have h1:=HBS.out
      rw [show decide (T_≠[])=true by simp [hnil],show decide (T_=t)=true by simp [heq]] at h1
      subst h1
      exact ⟨rfl,HRS.out⟩
     obtain ⟨w5,hst,hs,hbk,hs5,e1,e2,e3⟩:=Zay (P:=Tryz.prog) (T:=30) (zs:=cS s TX tc P pc Q qc) (k:=0) HQ4.out Zce (by show 12<=12;omega) qr
     have HST5:=hdQ hst
     have HLD:=qh ((Instr.loadAt 30 (.pointer (some ⟨X,0,none⟩))).run Tryz.prog w4=.ok (.agg ⟨cS s TX tc P pc Q qc⟩) w4) (Zal (P:=Tryz.prog) Tryz.underlying30 rfl Zce (λj v hv=>by rw [Nat.zero_add,HO4.out.cell];exact hv))
     have HB5:=qh (Below w.heap.size w w5) (Below.trans HB4.out ⟨e1,e2,e3,qo,λb h=>hbk b qo⟩)
     have HO5:=qh (Own w5 w.heap.size 30 (cS s TX tc P pc Q qc)) hs
     have HS5:=qh (SceneR w5 B [] s TX tc P pc Q qc) (HS4.out.fewer.keep qo (λx hx _ _=>hbk x qo))
     have hz5:B<=w5.heap.size:=qo
     have hBw:w.heap.size<=B:=qo
     have z0:w5.cell? ⟨w.heap.size,0,none⟩=some (.int .i64 s.a):=HO5.out.cell 0
     have z1:w5.cell? ⟨w.heap.size,1,none⟩=some (.int .i64 s.b):=HO5.out.cell 1
     have z2:w5.cell? ⟨w.heap.size,2,none⟩=some (.int .i64 s.c):=HO5.out.cell 2
     have z3:w5.cell? ⟨w.heap.size,3,none⟩=some (.int .i64 s.d):=HO5.out.cell 3
     have z4:w5.cell? ⟨w.heap.size,4,none⟩=some (.bool s.e):=HO5.out.cell 4
     have z5:w5.cell? ⟨w.heap.size,5,none⟩=some (.int .i64 s.f):=HO5.out.cell 5
     have z6:w5.cell? ⟨w.heap.size,6,none⟩=some (.int .i64 s.g):=HO5.out.cell 6
     have z7:w5.cell? ⟨w.heap.size,7,none⟩=some (.int .i64 s.log):=HO5.out.cell 7
     have z8:w5.cell? ⟨w.heap.size,8,none⟩=some (.slice TX s.tex.length tc):=HO5.out.cell 8
     have z9:w5.cell? ⟨w.heap.size,9,none⟩=some (.slice P s.ps.length pc):=HO5.out.cell 9
     have z10:w5.cell? ⟨w.heap.size,10,none⟩=some (.slice Q s.ss.length qc):=HO5.out.cell 10
     have z11:w5.cell? ⟨w.heap.size,11,none⟩=some (.int .i64 s.side):=HO5.out.cell 11
     have zf:=HO5.out.frozen
     have zl:=HO5.out.lt
     clear hst hs hbk hs5 e1 e2 e3
     go_wp2_with (first|(refine Zaj rfl 30 (.tmp 4) rfl rfl HLD.out ?_)|(refine Zaf rfl 30 (.tmp 2) (.tmp 94) rfl rfl rfl HST5.out ?_)|fail)
     exact bodyPost_ret (v:=.tuple #[.agg ⟨cS s TX tc P pc Q qc⟩,.bool true]) (by simp [results,Tryz.results5,go_sem, *];rfl) rfl ⟨TX,tc,P,pc,Q,qc,B,rfl,hBw,hz5,HS5.out,HB5.out⟩
    ·have hne:(T_==t)=false:=by simpa using heq
     obtain ⟨rfl,rfl⟩:BS=false/\RS_=Zdp:=by
      have h1:=HBS.out
      rw [show decide (T_=t)=false by simp [heq],Bool.and_false] at h1
      subst h1
      exact ⟨rfl,by rw [<- HRS.out];rfl⟩
     obtain ⟨w5,hst,hs,hbk,hs5,e1,e2,e3⟩:=Zay (P:=Tryz.prog) (T:=30) (zs:=zS) (k:=0) HQ4.out Zce (by show 12<=12;omega) qr
     have HST5:=hdQ hst
     have HB5:=qh (Below w.heap.size w w5) (Below.trans HB4.out ⟨e1,e2,e3,qo,λb h=>hbk b qo⟩)
     have HO5:=qh (Own w5 w.heap.size 30 zS) hs
     have z0:w5.cell? ⟨w.heap.size,0,none⟩=some (.int .i64 0):=HO5.out.cell 0
     have z1:w5.cell? ⟨w.heap.size,1,none⟩=some (.int .i64 0):=HO5.out.cell 1
     have z2:w5.cell? ⟨w.heap.size,2,none⟩=some (.int .i64 0):=HO5.out.cell 2
     have z3:w5.cell? ⟨w.heap.size,3,none⟩=some (.int .i64 0):=HO5.out.cell 3
     have z4:w5.cell? ⟨w.heap.size,4,none⟩=some (.bool false):=HO5.out.cell 4
     have z5:w5.cell? ⟨w.heap.size,5,none⟩=some (.int .i64 0):=HO5.out.cell 5
     have z6:w5.cell? ⟨w.heap.size,6,none⟩=some (.int .i64 0):=HO5.out.cell 6
     have z7:w5.cell? ⟨w.heap.size,7,none⟩=some (.int .i64 0):=HO5.out.cell 7
     have z8:w5.cell? ⟨w.heap.size,8,none⟩=some (.slice none 0 0):=HO5.out.cell 8
     have z9:w5.cell? ⟨w.heap.size,9,none⟩=some (.slice none 0 0):=HO5.out.cell 9
     have z10:w5.cell? ⟨w.heap.size,10,none⟩=some (.slice none 0 0):=HO5.out.cell 10
     have z11:w5.cell? ⟨w.heap.size,11,none⟩=some (.int .i64 0):=HO5.out.cell 11
     have zf:=HO5.out.frozen
     have zl:=HO5.out.lt
     clear hst hs hbk hs5 e1 e2 e3
     go_wp2_with (refine Zaf rfl 30 (.tmp 2) (.tmp 93) rfl rfl rfl HST5.out ?_)
     exact bodyPost_ret (v:=.tuple #[.agg ⟨zS⟩,.bool false]) (by simp [results,Tryz.results5,go_sem, *];rfl) rfl (Zdm.zero HB5.out)
theorem L_heldNodeS {base:Nat} {NA:Option Addr} {nc:Nat} {ns:List Zac} {AA:Option Addr} {ac:Nat} {as_:List Zaa} {k:Nat} (w:World) (h:Zbm w base NA nc (mkN k ns) AA ac as_) (hx:∀ x,x∈ns->x.2.2.2.length<=3) (h0:0<k) (h1:k<=1048576) :
  Calls Tryz.prog 88 #[.slice NA ns.length nc,.int .i64 k] w λe w'=>e=.returned (.int .i64 ((k+szN ns:Nat):Int))/\Below w.heap.size w w':=by
 have hcap:=h.2.2.2.1
 rw [Zep] at hcap
 have HP:=hdQ h
 have HX:=hdQ hx
 clear h hx
 go_enter Tryz.func88,Tryz.ntmps88
 go_wp2_with fail
 go_loopw [1,5] (λq i wr=>∃ m:Nat,m<=ns.length/\q=.int .i64 ((k+szN (ns.take m):Nat):Int)/\i=.int .i64 m/\Below w.heap.size w wr) (λ_ i _=>ns.length-(RowKit.intOf i).toNat)
 case atStart=>exact ⟨0,Nat.zero_le _,by simp [szN],rfl,Below.refl _ _⟩
 case round =>
  obtain ⟨m,hm,rfl,rfl,hbw⟩:=hrel
  obtain ⟨wo,rfl⟩:=qe wr
  have hz:=hbw.size
  have HBm:=hdQ hbw
  clear hbw
  by_cases hlt:m<ns.length
  ·have hlm:m<(mkN k ns).length:=by rw [Zep];exact hlt
   obtain ⟨g,cs,ds,A,c,hNA,hbg,ho,hlen,hnc,hmax,hcs,hr,hAg,hch⟩:=HP.out.open_ hlm
   have hat:=mkN_at (k:=k) hlt
   rw [hat] at hcs hr
   rw [Zep] at hlen hnc
   subst hNA
   have hargs:=HX.out _ (List.getElem_mem hlt)
   have hsz:szN (ns.take m)<=m*6:=by
    have:=szN_le (ns:=ns.take m) (b:=3) (λx hx=>HX.out x (List.mem_of_mem_take hx))
    rw [List.length_take] at this
    have h2:min m ns.length*(3+3)=m*6:=by rw [Nat.min_eq_left hm]
    omega
   have hsuc:=szN_succ hlt
   obtain ⟨K,hK⟩:=qv (k+szN (ns.take m))
   have hKb:K<=2097152:=qo
   have hK0:0<K:=qo
   obtain ⟨n,hn⟩:=qv (ns[m].2.2.2.length)
   rw [hn] at hargs hsuc
   rw [hK] at hcs hr ⊢
   have hul:∀ z:Int,(Zby z n).length=n:=λz=>by simp [Zby]
   have hcs2:(cs.drop (m*4)).take 4=[.int .i64 K,str (markT (K+1)),.int .i64 ((K:Int)+2),.slice A n c]:=by
    rw [hcs]
    simp only [mk1,hn,hul]
    rw [show ((K+2:Nat):Int)=(K:Int)+2 by omega]
   have hr2:Zbu w 1 A n c 3 (ints (Zby ((K:Int)+3) n)):=by
    have:=hr
    simp only [mk1,hn,hul] at this
    rw [show ((K+3:Nat):Int)=(K:Int)+3 by omega] at this
    exact this
   obtain ⟨T,hT⟩:=qv (markT (K+1))
   have HMT:=qh (∀ wx,CB_ Tryz.prog 144 #[.int .i64 ((K:Int)+1)] wx (str (markT (K+1)))) (λwx=>by have:=L_markText (k:=K+1) wx qo qo;rw [show ((K+1:Nat):Int)=(K:Int)+1 by omega] at this;exact this)
   rw [hT] at HMT hcs2
   obtain ⟨q0,q1,q2,q3⟩:=part_cells hcs2
   have l3:=some_lt q3
   have HO:=hdQ ho
   have HR:=hdQ hr2
   have hglt:=ho.lt
   have d:∀ j,m*4+j<cs.length->wo.cell? ⟨g,m*4+j,none⟩=cs[m*4+j]? := λj hj=>by
    rw [HBm.out.cell (p:=⟨g,m*4+j,none⟩) hglt,ho.cell,List.getElem?_append_left hj]
   have d0:wo.cell? ⟨g,m*4,none⟩=some (.int .i64 K):=by have:=d 0 qo;exact this.trans q0
   have d1:wo.cell? ⟨g,m*4+1,none⟩=some (str T):=(d 1 qo).trans q1
   have d2:wo.cell? ⟨g,m*4+2,none⟩=some (.int .i64 ((K:Int)+2)):=(d 2 qo).trans q2
   have d3:wo.cell? ⟨g,m*4+3,none⟩=some (.slice A n c):=(d 3 qo).trans q3
   have dl:g<wo.heap.size:=qo
   unfold maxLen at hmax
   have hw1:IntKind.i64.wrap ((K:Int)+1)=(K:Int)+1:=IntWalk.i64_in _ qo
   have hw2:IntKind.i64.wrap ((K:Int)+1+1)=(K:Int)+2:=by rw [show (K:Int)+1+1=(K:Int)+2 by omega];exact IntWalk.i64_in _ qo
   have hw3:IntKind.i64.wrap ((K:Int)+2+1)=(K:Int)+3:=by rw [show (K:Int)+2+1=(K:Int)+3 by omega];exact IntWalk.i64_in _ qo
   have hlt':(m:Int)<ns.length:=qo
   have hTT:(T != T)=false:=qs
   have hnn:¬ (K:Int)+3+n<0:=qo
   have HHI:=qh (∀ wx,Zbu wx 1 A n c 3 (ints (Zby ((K:Int)+3) n))->Calls Tryz.prog 87 #[.slice A n c,.int .i64 ((K:Int)+3)] wx λe w'=>e=.returned (.int .i64 ((K:Int)+3+n))/\wx=w') (λwx hq=>L_heldIntSG wx hq qo qo qo)
   have hKK:=qh ((K:Int)+3+n=((k+szN (ns.take (m+1)):Nat):Int)) qo
   clear ho hr hr2 hch hAg hat hcs hcs2 hT hsuc hsz d q0 q1 q2 q3 hul hn
   go_wp2_with fail
   go_region_held3 (λw'=>w'.cell? ⟨g,m*4+1,none⟩=some (str T))
    (first|((try dsimp only);(go_simp;done))|go_keep)
    (first|(go_at_call 144;(with_reducible refine (HMT.out _).mono ?_);rintro e w2 ⟨rfl,hb2⟩;have hz2:wo.heap.size<=w2.heap.size:=hb2.size;have c1:w2.cell? ⟨g,m*4+1,none⟩=some (str T):=(hb2.cell (p:=⟨g,m*4+1,none⟩) dl).trans d1;have c2:w2.cell? ⟨g,m*4+2,none⟩=some (.int .i64 ((K:Int)+2)):=(hb2.cell (p:=⟨g,m*4+2,none⟩) dl).trans d2;have c3:w2.cell? ⟨g,m*4+3,none⟩=some (.slice A n c):=(hb2.cell (p:=⟨g,m*4+3,none⟩) dl).trans d3;have HB2:=qh (Below w.heap.size w w2) (Below.step hb2 (Below.drew HBm.out) hz);clear hb2)|fail)
   all_goals
    go_wp2_with fail
    (with_reducible refine (HHI.out _ (HR.out.step HB2.out)).mono ?_)
    rintro e w' ⟨rfl,rfl⟩
    go_wp2_with fail
    go_roundw
    case rel=>exact ⟨m+1,qo,by rw [hKK.out],qg,HB2.out⟩
    case measure=>exact qn
  ·obtain rfl:m=ns.length:=by omega
   go_wp2_with fail
   go_ret
   rw [List.take_length]
   exact ⟨rfl,HBm.out⟩
theorem L_heldAssignmentS {base:Nat} {NA:Option Addr} {nc:Nat} {ns:List Zac} {AA:Option Addr} {ac:Nat} {as_:List Zaa} {k:Nat} (w:World) (h:Zbm w base NA nc ns AA ac (mkA k as_)) (h0:0<k) (h1:k<=1048576) :
  Calls Tryz.prog 89 #[.slice AA as_.length ac,.int .i64 k] w λe w'=>e=.returned (.int .i64 ((k+2*as_.length:Nat):Int))/\Below w.heap.size w w':=by
 have hcap:=h.2.2.2.2
 rw [mkA_len] at hcap
 have HP:=hdQ h
 clear h
 go_enter Tryz.func89,Tryz.ntmps89
 go_wp2_with fail
 go_loopw [1,5] (λq i wr=>∃ m:Nat,m<=as_.length/\q=.int .i64 ((k+2*m:Nat):Int)/\i=.int .i64 m/\Below w.heap.size w wr) (λ_ i _=>as_.length-(RowKit.intOf i).toNat)
 case atStart=>exact ⟨0,Nat.zero_le _,qs,rfl,Below.refl _ _⟩
 case round =>
  obtain ⟨m,hm,rfl,rfl,hbw⟩:=hrel
  obtain ⟨wo,rfl⟩:=qe wr
  have hz:=hbw.size
  have HBm:=hdQ hbw
  clear hbw
  by_cases hlt:m<as_.length
  ·have hlm:m<(mkA k as_).length:=by rw [mkA_len];exact hlt
   obtain ⟨g,ds,hAA,hbg,ho,hnc,hmax,hch⟩:=HP.out.openA hlm
   have hat:=rAss_at hlm
   have hln:=rAss_len (mkA k as_)
   have hmk:=mkA_at (k:=k) hlt
   rw [hmk] at hat
   rw [mkA_len] at hnc hln
   subst hAA
   obtain ⟨K,hK⟩:=qv (k+2*m)
   have hKb:K<=3145728:=qo
   have hK0:0<K:=qo
   rw [hK] at hat ⊢
   obtain ⟨q0,q1⟩:=hat
   simp only [mkA1] at q0 q1
   rw [show ((K+1:Nat):Int)=(K:Int)+1 by omega] at q1
   obtain ⟨T,hT⟩:=qv (markT K)
   have HMT:=qh (∀ wx,CB_ Tryz.prog 144 #[.int .i64 K] wx (str (markT K))) (λwx=>L_markText wx qo qo)
   rw [hT] at HMT q0
   have hglt:=ho.lt
   have d0:wo.cell? ⟨g,m*2,none⟩=some (str T):=by rw [HBm.out.cell (p:=⟨g,m*2,none⟩) hglt,ho.cell,List.getElem?_append_left qo];exact q0
   have d1:wo.cell? ⟨g,m*2+1,none⟩=some (.int .i64 ((K:Int)+1)):=by rw [HBm.out.cell (p:=⟨g,m*2+1,none⟩) hglt,ho.cell,List.getElem?_append_left qo];exact q1
   have dl:g<wo.heap.size:=qo
   unfold maxLen at hmax
   have hw1:IntKind.i64.wrap ((K:Int)+1)=(K:Int)+1:=IntWalk.i64_in _ qo
   have hw2:IntKind.i64.wrap ((K:Int)+1+1)=(K:Int)+2:=by rw [show (K:Int)+1+1=(K:Int)+2 by omega];exact IntWalk.i64_in _ qo
   have hlt':(m:Int)<as_.length:=qo
   have hTT:(T != T)=false:=qs
   have hKK:=qh ((K:Int)+2=((k+2*(m+1):Nat):Int)) qo
   clear ho hch hT q0 q1 hmk
   go_wp2_with fail
   go_region_held3 (λw'=>w'.cell? ⟨g,m*2,none⟩=some (str T))
    (first|((try dsimp only);(go_simp;done))|go_keep)
    (first|(go_at_call 144;(with_reducible refine (HMT.out _).mono ?_);rintro e w2 ⟨rfl,hb2⟩;have hz2:wo.heap.size<=w2.heap.size:=hb2.size;have c0:w2.cell? ⟨g,m*2,none⟩=some (str T):=(hb2.cell (p:=⟨g,m*2,none⟩) dl).trans d0;have c1:w2.cell? ⟨g,m*2+1,none⟩=some (.int .i64 ((K:Int)+1)):=(hb2.cell (p:=⟨g,m*2+1,none⟩) dl).trans d1;have HB2:=qh (Below w.heap.size w w2) (Below.step hb2 (Below.drew HBm.out) hz);clear hb2)|fail)
   all_goals
    go_wp2_with fail
    go_roundw
    case rel=>exact ⟨m+1,qo,by rw [hKK.out],qg,HB2.out⟩
    case measure=>exact qn
  ·obtain rfl:m=as_.length:=by omega
   go_wp2_with fail
   go_ret
   exact ⟨rfl,HBm.out⟩
def szP (p:Zae):Nat:=szN p.1+2*p.2.length
def mkP (k:Nat) (p:Zae):Zae:=(mkN k p.1,mkA (k+szN p.1) p.2)
def Ks (k:Nat) (g:Nat->Zae):Nat->Nat
 | 0=>k
 | i+1=>Ks k g i+szP (g i)
def okP (p:Zae):Prop:=p.1.length<=60/\p.2.length<=60/\Small p.1
theorem szP_le {p:Zae} (h:okP p):szP p<=480:=by
 have:=szN_le (ns:=p.1) (b:=3) h.2.2
 have h1:=h.1
 have h2:=h.2.1
 unfold szP
 omega
theorem Ks_le {k:Nat} {g:Nat->Zae}:∀ m,(∀ i,i<m->okP (g i))->Ks k g m<=k+480*m
 | 0,_=>Nat.le_refl _
 | m+1,h=>by
  have h1:=Ks_le (k:=k) m (λi hi=>h i qo)
  have h2:=szP_le (h m qo)
  show Ks k g m+szP (g m)<=_
  omega
theorem Ks_pos {k:Nat} {g:Nat->Zae} (h:0<k):∀ m,0<Ks k g m
 | 0=>h
 | m+1=>by have:=Ks_pos (g:=g) h m;show 0<Ks k g m+szP (g m);omega
def Zc5 (w:World) (base H:Nat) (X:List Nat) (P:Option Addr) (pc n:Nat) (g:Nat->Zae):Prop :=
 ∃ (cs:List Value) (lo hi:Nat->Nat),Zah w base 62 2 P n pc cs/\(∀ (i:Nat),i<n->ProgAtM w base cs i (g i) (lo i) (hi i)/\hi i<=H)/\(∀ i j,i<j->j<n->hi i<=lo j)/\(∀ x,x∈gOf P++X->∀ i,i<n->x<lo i∨hi i<=x)/\(∀ x,x∈X->x∉gOf P)/\(∀ x,x∈gOf P->x<H)
def gP (ps:List Zae) (i:Nat):Zae:=ps.getD i ([],[])
theorem gP_at {ps:List Zae} {i:Nat} (h:i<ps.length):gP ps i=ps[i]:=by unfold gP;rw [List.getD_eq_getElem?_getD,List.getElem?_eq_getElem h];rfl
theorem Zcq.toF {w:World} {base:Nat} {X:List Nat} {P:Option Addr} {pc:Nat} {ps:List Zae} (h:Zcq w base X P pc ps):Zc5 w base w.heap.size X P pc ps.length (gP ps):=by
 obtain ⟨cs,lo,hi,h1,h2,h3,h4,h5⟩:=h
 exact ⟨cs,lo,hi,h1,λi hi'=>⟨by rw [gP_at hi'];exact h2 i hi',(h2 i hi').b2⟩,h3,h4,h5,h1.lt⟩
theorem Zc5.keep {w w':World} {base H:Nat} {X:List Nat} {P:Option Addr} {pc n:Nat} {g:Nat->Zae} (h:Zc5 w base H X P pc n g) (hz:w.heap.size<=w'.heap.size) (hk:∀ x,base<=x->x<w.heap.size->x<H->x∉X->w'.heap[x]? = w.heap[x]?):Zc5 w' base H X P pc n g:=by
 obtain ⟨cs,lo,hi,h1,h2,h3,h4,h5,h6⟩:=h
 refine ⟨cs,lo,hi,h1.keep (λx hx=>hk x (h1.ge x hx) (h1.lt x hx) (h6 x hx) (λq=>h5 x q hx)),λi hi'=>⟨(h2 i hi').1.keep hz (λx a b=>?_),(h2 i hi').2⟩,h3,h4,h5,h6⟩
 have q:=(h2 i hi').1
 have b0:=q.b0
 have b2:=q.b2
 have b3:=(h2 i hi').2
 refine hk x qo qo qo (λhX=>?_)
 have:=h4 x (by simp [hX]) i hi'
 omega
theorem Zc5.step {w w':World} {base H:Nat} {X:List Nat} {P:Option Addr} {pc n:Nat} {g:Nat->Zae} (h:Zc5 w base H X P pc n g) (hb:Below w.heap.size w w'):Zc5 w' base H X P pc n g:=h.keep hb.size (λx _ hl _ _=>hb.block x hl)
theorem Zc5.upd {w w':World} {base H:Nat} {X:List Nat} {P:Option Addr} {pc n:Nat} {g g':Nat->Zae} {cs:List Value} {lo hi:Nat->Nat} {m:Nat} (hm:m<n)
  (h1:Zah w base 62 2 P n pc cs) (h2:∀ (i:Nat),i<n->ProgAtM w base cs i (g i) (lo i) (hi i)/\hi i<=H) (h3:∀ i j,i<j->j<n->hi i<=lo j) (h4:∀ x,x∈gOf P++X->∀ i,i<n->x<lo i∨hi i<=x) (h5:∀ x,x∈X->x∉gOf P) (h6:∀ x,x∈gOf P->x<H)
  (hz:w.heap.size<=w'.heap.size) (hk:∀ y,y<w.heap.size->(y<lo m∨hi m<=y)->w'.heap[y]? = w.heap[y]?) (hg:∀ i,i≠m->g' i=g i) (hp:ProgAtM w' base cs m (g' m) (lo m) (hi m)):Zc5 w' base H X P pc n g':=by
 refine ⟨cs,lo,hi,h1.keep (λx hx=>hk x (h1.lt x hx) (h4 x (by simp [hx]) m hm)),λi hi'=>⟨?_,(h2 i hi').2⟩,h3,h4,h5,h6⟩
 by_cases e:i=m
 ·subst e;exact hp
 ·rw [hg i e]
  have q:=(h2 i hi').1
  have b2:=q.b2
  have qm:=(h2 m hm).1
  refine q.keep hz (λx a b=>hk x qo ?_)
  rcases Nat.lt_or_ge i m with h|h
  ·have:=h3 i m h hm;have:=qm.b1;omega
  ·have:=h3 m i qo hi';have:=qm.b1;omega
theorem LowN.cells {w w':World} {NA:Option Addr} {n hi:Nat} (h:LowN w NA n hi) (hk:∀ y,y∈gOf NA->w'.heap[y]? = w.heap[y]?):LowN w' NA n hi :=
 ⟨h.1,λj hj A l c g hg hc y hy=>h.2 j hj A l c g hg (by rw [<- World.cell?_of_block (hk g (by rw [hg];simp [gOf]))];exact hc) y hy⟩
def mixP (k:Nat) (g:Nat->Zae) (m:Nat) (i:Nat):Zae:=if i<m then mkP (Ks k g i) (g i) else g i
theorem mixP_at (k:Nat) (g:Nat->Zae) (m:Nat):mixP k g m m=g m:=by unfold mixP;rw [if_neg qo]
theorem mixP_new (k:Nat) (g:Nat->Zae) (m:Nat):mixP k g (m+1) m=mkP (Ks k g m) (g m):=by unfold mixP;rw [if_pos qo]
theorem mixP_other (k:Nat) (g:Nat->Zae) (m i:Nat) (h:i≠m):mixP k g (m+1) i=mixP k g m i:=by
 unfold mixP
 rcases Nat.lt_or_ge i m with q|q
 ·rw [if_pos qo,if_pos q]
 ·rw [if_neg qo,if_neg qo]
theorem mixP_zero (k:Nat) (g:Nat->Zae):mixP k g 0=g:=by funext i;unfold mixP;rw [if_neg qo]
theorem L_markProgramS {base H:Nat} {X:List Nat} {P:Option Addr} {pc n k:Nat} {g:Nat->Zae} (w:World) (h:Zc5 w base H X P pc n g) (hb:base<=w.heap.size) (hg:∀ i,i<n->okP (g i)) (hn:n<=3) (h0:0<k) (h1:k<=1000) :
  Calls Tryz.prog 33 #[.slice P n pc,.int .i64 k] w λe w'=>e=.returned (.int .i64 ((Ks k g n:Nat):Int))/\Zc5 w' base H X P pc n (mixP k g n)/\Below base w w'/\(∀ y,y<w.heap.size->(H<=y∨y∈X)->w'.heap[y]? = w.heap[y]?):=by
 have HP:=hdQ h
 have HG:=hdQ hg
 clear h hg
 go_enter Tryz.func33,Tryz.ntmps33
 go_wp2_with fail
 go_loopw [1,5] (λq i wr=>∃ m:Nat,m<=n/\q=.int .i64 ((Ks k g m:Nat):Int)/\i=.int .i64 m/\Zc5 wr base H X P pc n (mixP k g m)/\Below base w wr/\(∀ y,y<w.heap.size->(H<=y∨y∈X)->wr.heap[y]? = w.heap[y]?)) (λ_ i _=>n-(RowKit.intOf i).toNat)
 case atStart=>exact ⟨0,Nat.zero_le _,rfl,rfl,by rw [mixP_zero];exact HP.out,Below.refl _ _,λ_ _ _=>rfl⟩
 case round =>
  obtain ⟨m,hm,rfl,rfl,hp,hbw,hmid⟩:=hrel
  obtain ⟨wo,rfl⟩:=qe wr
  have hz:=hbw.size
  have HPm:=hdQ hp
  have HBm:=hdQ hbw
  have HMID:=hdQ hmid
  clear hp hbw hmid HP
  by_cases hlt:m<n
  ·obtain ⟨cs,lo,hi,g1,g2,g3,g4,g5,g6⟩:=HPm.out
   obtain ⟨⟨⟨NA,nc,AA,ac,e1,e2,hpm,hlow,hAA⟩,b0,b1,b2⟩,hH⟩:=g2 m hlt
   rw [mixP_at] at e1 e2 hpm hlow
   have hok:=HG.out m hlt
   have hKs:=Ks_le (k:=k) (g:=g) m (λi hi=>HG.out i qo)
   have hKp:=Ks_pos (g:=g) h0 m
   have HKN:=qh (Ks k g (m+1)=Ks k g m+szN (g m).1+2*(g m).2.length) (by show Ks k g m+szP (g m)=_;unfold szP;omega)
   have HNW:=qh (mixP k g (m+1) m=mkP (Ks k g m) (g m)) (mixP_new k g m)
   have hsz:=szN_le (ns:=(g m).1) (b:=3) hok.2.2
   have ho1:=hok.1
   have ho2:=hok.2.1
   have hcl:cs.length=n*2:=g1.len
   obtain ⟨gb,ds,rfl,hbg,ho,hnc,hmax,_⟩:=g1.open_ qo
   have hgo:=g4 gb (by simp [gOf]) m hlt
   have hgH:=g6 gb (by simp [gOf])
   have hgl:=ho.lt
   unfold maxLen at hmax
   have hlt':(m:Int)<n:=qo
   have hm0:(0:Int)<=m:=qo
   have c0:wo.cell? ⟨gb,m*2,none⟩=some (.slice NA (g m).1.length nc):=by rw [ho.cell,List.getElem?_append_left qo];exact e1
   have HMN:=hdQ (L_markNodeSL (k:=Ks k g m) wo hpm hlow qo hok.2.2 hKp qo)
   obtain ⟨K2,hK2⟩:=qv (Ks k g m+szN (g m).1)
   obtain ⟨K3,hK3⟩:=qv (K2+2*(g m).2.length)
   rw [hK2] at HMN HKN
   rw [hK3] at HKN
   have HO:=hdQ ho
   have HE1:=hdQ e1
   have HE2:=hdQ e2
   have HGS:=hdQ (And.intro g1 (And.intro g2 (And.intro g3 (And.intro g4 (And.intro g5 g6)))))
   have HAA:=hdQ hAA
   have HNS:=hdQ hpm.2.2.1
   have hbsz:hi m<=wo.heap.size:=b2
   clear ho e1 e2 g1 g2 g3 g4 g5 g6 hpm hlow hAA hok HPm
   go_wp2_with fail
   (with_reducible refine HMN.out.mono ?_)
   rintro e w2 ⟨rfl,hp2,hb2,hl2,hm2⟩
   have hz2:=hb2.size
   have HU2:=qh (∀ y,y<wo.heap.size->(y<lo m∨hi m<=y)->w2.heap[y]? = wo.heap[y]?) (λy hy hq=>by
    rcases hq with q|q
    ·exact hb2.block y q
    ·exact hm2 y q hy)
   have HO2:=qh (Own w2 gb 62 (cs++ds)) ((HU2.out gb hgl hgo).trans HO.out)
   have HMA:=hdQ (L_markAssignmentSL (k:=K2) w2 hp2 HAA.out qo qo qo)
   rw [hK3] at HMA
   have HB2:=hdQ hb2
   have HL2:=hdQ hl2
   have c1:w2.cell? ⟨gb,m*2+1,none⟩=some (.slice AA (g m).2.length ac):=by rw [HO2.out.cell,List.getElem?_append_left qo];exact HE2.out
   have hgl2:=HO2.out.lt
   clear c0 hp2 hb2 hl2 hm2 HMN
   go_wp2_with fail
   (with_reducible refine HMA.out.mono ?_)
   rintro e w3 ⟨rfl,hp3,hb3,hm3⟩
   have hz3:=hb3.size
   have HU3:=qh (∀ y,y<wo.heap.size->(y<lo m∨hi m<=y)->w3.heap[y]? = wo.heap[y]?) (λy hy hq=>by
    refine (hm3 y (λr=>?_) qo).trans (HU2.out y hy hq)
    have r1:=hp3.1.ge y r
    have r2:=HAA.out y r
    omega)
   have HP3:=qh (Zc5 w3 base H X (some ⟨gb,0,none⟩) pc n (mixP k g (m+1))) (by
    obtain ⟨g1,g2,g3,g4,g5,g6⟩:=HGS.out
    refine Zc5.upd hlt g1 g2 g3 g4 g5 g6 qo HU3.out (λi hi=>mixP_other k g m i hi) ?_
    rw [HNW.out]
    unfold mkP
    rw [hK2]
    have hl3:=HL2.out.cells (w':=w3) (λy hy=>hm3 y (HNS.out y hy) (by have:=HL2.out.1 y hy;omega))
    exact ⟨⟨NA,nc,AA,ac,by show cs[m*2]? = some (.slice NA (mkN _ _).length nc);rw [Zep];exact HE1.out,by show cs[m*2+1]? = some (.slice AA (mkA _ _).length ac);rw [mkA_len];exact HE2.out,hp3,by show LowN w3 NA (mkN _ _).length _;rw [Zep];exact hl3,HAA.out⟩,b0,b1,qo⟩)
   have HB3:=qh (Below base w w3) (HBm.out.trans ((HB2.out.mono b0).trans (hb3.mono b0)))
   have HM3:=qh (∀ y,y<w.heap.size->(H<=y∨y∈X)->w3.heap[y]? = w.heap[y]?) (λy hy hq=>by
    refine (HU3.out y qo ?_).trans (HMID.out y hy hq)
    rcases hq with q|q
    ·right;omega
    ·exact HGS.out.2.2.2.1 y (by simp [q]) m hlt)
   clear hp3 hb3 hm3 HMA c1
   go_wp2_with fail
   go_roundw
   case rel=>exact ⟨m+1,qo,by rw [HKN.out],qg,HP3.out,HB3.out,HM3.out⟩
   case measure=>exact qn
  ·obtain rfl:m=n:=by omega
   go_wp2_with fail
   go_ret
   exact ⟨rfl,HPm.out,HBm.out,HMID.out⟩
theorem L_heldProgramS {base H:Nat} {X:List Nat} {P:Option Addr} {pc n k:Nat} {g:Nat->Zae} (w:World) (h:Zc5 w base H X P pc n (mixP k g n)) (hg:∀ i,i<n->okP (g i)) (hn:n<=3) (h0:0<k) (h1:k<=1000) :
  Calls Tryz.prog 36 #[.slice P n pc,.int .i64 k] w λe w'=>e=.returned (.int .i64 ((Ks k g n:Nat):Int))/\Below w.heap.size w w':=by
 have HP:=hdQ h
 have HG:=hdQ hg
 clear h hg
 go_enter Tryz.func36,Tryz.ntmps36
 go_wp2_with fail
 go_loopw [1,5] (λq i wr=>∃ m:Nat,m<=n/\q=.int .i64 ((Ks k g m:Nat):Int)/\i=.int .i64 m/\Below w.heap.size w wr) (λ_ i _=>n-(RowKit.intOf i).toNat)
 case atStart=>exact ⟨0,Nat.zero_le _,rfl,rfl,Below.refl _ _⟩
 case round =>
  obtain ⟨m,hm,rfl,rfl,hbw⟩:=hrel
  obtain ⟨wo,rfl⟩:=qe wr
  have hz:=hbw.size
  have HPm:=hdQ (HP.out.step hbw)
  have HBm:=hdQ hbw
  clear hbw
  by_cases hlt:m<n
  ·obtain ⟨cs,lo,hi,g1,g2,g3,g4,g5,g6⟩:=HPm.out
   obtain ⟨⟨⟨NA,nc,AA,ac,e1,e2,hpm,hlow,hAA⟩,b0,b1,b2⟩,hH⟩:=g2 m hlt
   rw [show mixP k g n m=mkP (Ks k g m) (g m) by unfold mixP;rw [if_pos hlt]] at e1 e2 hpm hlow
   have hok:=HG.out m hlt
   have hKs:=Ks_le (k:=k) (g:=g) m (λi hi=>HG.out i qo)
   have hKp:=Ks_pos (g:=g) h0 m
   have HKN:=qh (Ks k g (m+1)=Ks k g m+szN (g m).1+2*(g m).2.length) (by show Ks k g m+szP (g m)=_;unfold szP;omega)
   have hsz:=szN_le (ns:=(g m).1) (b:=3) hok.2.2
   have ho1:=hok.1
   have ho2:=hok.2.1
   have hcl:cs.length=n*2:=g1.len
   obtain ⟨gb,ds,rfl,hbg,ho,hnc,hmax,_⟩:=g1.open_ qo
   have hgl:=ho.lt
   unfold maxLen at hmax
   have hlt':(m:Int)<n:=qo
   have hm0:(0:Int)<=m:=qo
   have l1:(mkP (Ks k g m) (g m)).1.length=(g m).1.length:=Zep _ _
   have l2:(mkP (Ks k g m) (g m)).2.length=(g m).2.length:=mkA_len _ _
   rw [l1] at e1
   rw [l2] at e2
   have c0:wo.cell? ⟨gb,m*2,none⟩=some (.slice NA (g m).1.length nc):=by rw [ho.cell,List.getElem?_append_left qo];exact e1
   have HHN:=hdQ (L_heldNodeS (k:=Ks k g m) wo hpm hok.2.2 hKp qo)
   obtain ⟨K2,hK2⟩:=qv (Ks k g m+szN (g m).1)
   obtain ⟨K3,hK3⟩:=qv (K2+2*(g m).2.length)
   rw [hK2] at HHN HKN
   rw [hK3] at HKN
   have hpm':Zbm wo (lo m) NA nc (mkN (Ks k g m) (g m).1) AA ac (mkA (Ks k g m+szN (g m).1) (g m).2):=hpm
   have HQ:=qh (∀ wx,Below wo.heap.size wo wx->Zbm wx (lo m) NA nc (mkN (Ks k g m) (g m).1) AA ac (mkA (Ks k g m+szN (g m).1) (g m).2)) (λwx q=>hpm'.keep (λx _ hl=>q.block x hl))
   have HO:=hdQ ho
   have HE2:=hdQ e2
   rw [hK2] at HQ
   have hn2:¬ (K2:Int)<0:=qo
   have hn3:¬ (K3:Int)<0:=qo
   clear ho e1 e2 g1 g2 g3 g4 g5 g6 hpm hpm' hlow hAA hok HPm l1 l2
   go_wp2_with fail
   (with_reducible refine HHN.out.mono ?_)
   rintro e w2 ⟨rfl,hb2⟩
   have hz2:=hb2.size
   have HO2:=qh (Own w2 gb 62 (cs++ds)) (Own.step hb2 HO.out)
   have HHA:=hdQ (L_heldAssignmentS (k:=K2) w2 (HQ.out w2 hb2) qo qo)
   rw [hK3] at HHA
   have HB2:=qh (Below w.heap.size w w2) (Below.step hb2 HBm.out hz)
   have c1:w2.cell? ⟨gb,m*2+1,none⟩=some (.slice AA (g m).2.length ac):=by rw [HO2.out.cell,List.getElem?_append_left qo];exact HE2.out
   have hgl2:=HO2.out.lt
   clear c0 hb2 HHN
   go_wp2_with fail
   (with_reducible refine HHA.out.mono ?_)
   rintro e w3 ⟨rfl,hb3⟩
   have hz3:=hb3.size
   have HB3:=qh (Below w.heap.size w w3) (Below.step hb3 HB2.out qo)
   clear hb3 HHA c1
   go_wp2_with fail
   go_roundw
   case rel=>exact ⟨m+1,qo,by rw [HKN.out],qg,HB3.out⟩
   case measure=>exact qn
  ·obtain rfl:m=n:=by omega
   go_wp2_with fail
   go_ret
   exact ⟨rfl,HBm.out⟩
def MkS (k n:Nat) (xs:List Value) (m:Nat):Prop:=xs.length=n*26/\∀ i,i<m->xs[i*26+24]? = some (.int .i64 ((k+2*i:Nat):Int))/\xs[i*26+25]? = some (.int .i64 ((k+2*i+1:Nat):Int))
theorem MkS.succ {k n:Nat} {xs:List Value} {m:Nat} (h:MkS k n xs m) (hm:m<n):MkS k n ((xs.set (m*26+24) (.int .i64 ((k+2*m:Nat):Int))).set (m*26+25) (.int .i64 ((k+2*m+1:Nat):Int))) (m+1):=by
 have hl:=h.1
 refine ⟨by simp [hl],λi hi=>?_⟩
 by_cases e:i=m
 ·subst e
  rw [List.getElem?_set_ne qo,List.getElem?_set_self qo,List.getElem?_set_self (by simp;omega)]
  exact ⟨rfl,rfl⟩
 ·rw [List.getElem?_set_ne qo,List.getElem?_set_ne qo,List.getElem?_set_ne qo,List.getElem?_set_ne qo]
  exact h.2 i qo
theorem L_markSurfaceS {base:Nat} {Q:Option Addr} {qc n k:Nat} {xs:List Value} (w:World) (h:Zah w base 45 26 Q n qc xs) (hn:n<=5) (h1:k<=100000) :
  Calls Tryz.prog 34 #[.slice Q n qc,.int .i64 k] w λe w'=>∃ ys,e=.returned (.int .i64 ((k+2*n:Nat):Int))/\Zah w' base 45 26 Q n qc ys/\MkS k n ys n/\Only w.heap.size (gOf Q) w w':=by
 have HG:=hdQ h
 clear h
 go_enter Tryz.func34,Tryz.ntmps34
 go_wp2_with fail
 go_loopw [1,5] (λq i wr=>∃ (m:Nat) (ys:List Value),m<=n/\q=.int .i64 ((k+2*m:Nat):Int)/\i=.int .i64 m/\Zah wr base 45 26 Q n qc ys/\MkS k n ys m/\Only w.heap.size (gOf Q) w wr) (λ_ i _=>n-(RowKit.intOf i).toNat)
 case atStart=>exact ⟨0,xs,Nat.zero_le _,qs,rfl,HG.out,⟨HG.out.len,λi hi=>absurd hi qo⟩,Only.refl _ _ _⟩
 case round =>
  obtain ⟨m,ys,hm,rfl,rfl,hg,hmk,hon⟩:=hrel
  obtain ⟨wo,rfl⟩:=qe wr
  have HGm:=hdQ hg
  have HMk:=hdQ hmk
  have HON:=hdQ hon
  by_cases hlt:m<n
  ·have hyl:=hg.len
   obtain ⟨gb,ds,rfl,hbg,ho,hnc,hmax,hcs⟩:=hg.open_ qo
   obtain ⟨K,hK⟩:=qv (k+2*m)
   have hMS:=hmk.succ hlt
   rw [hK] at hMS
   have HMS:=hdQ hMS
   have h24:m*26+24<ys.length:=qo
   have h25:m*26+25<ys.length:=qo
   have d24:wo.cell? ⟨gb,m*26+24,none⟩=some (ys[m*26+24]):=by rw [ho.cell,List.getElem?_append_left h24,List.getElem?_eq_getElem h24]
   have d25:wo.cell? ⟨gb,m*26+25,none⟩=some (ys[m*26+25]):=by rw [ho.cell,List.getElem?_append_left h25,List.getElem?_eq_getElem h25]
   generalize ys[m*26+24]=v24 at *
   generalize ys[m*26+25]=v25 at *
   have df:=ho.frozen
   have dl:=ho.lt
   unfold maxLen at hmax
   have hw1:IntKind.i64.wrap ((K:Int)+1)=(K:Int)+1:=IntWalk.i64_in _ qo
   have hw2:IntKind.i64.wrap ((K:Int)+1+1)=(K:Int)+2:=by rw [show (K:Int)+1+1=(K:Int)+2 by omega];exact IntWalk.i64_in _ qo
   have hlt':(m:Int)<n:=qo
   have hm0:(0:Int)<=m:=qo
   have HK2:=qh ((K:Int)+2=((k+2*(m+1):Nat):Int)) qo
   have HF:Hid (Own ((wo.setCell ⟨gb,m*26+24,none⟩ (.int .i64 K)).setCell ⟨gb,m*26+25,none⟩ (.int .i64 ((K:Int)+1))) gb 45 (((ys.set (m*26+24) (.int .i64 K)).set (m*26+25) (.int .i64 ((K:Int)+1)))++ds)):=hdQ ((ho.set_left (m*26+24) h24 (.int .i64 K)).set_left (m*26+25) (by simp;exact h25) (.int .i64 ((K:Int)+1)))
   have HGF:=qh (Zah ((wo.setCell ⟨gb,m*26+24,none⟩ (.int .i64 K)).setCell ⟨gb,m*26+25,none⟩ (.int .i64 ((K:Int)+1))) base 45 26 (some ⟨gb,0,none⟩) n qc ((ys.set (m*26+24) (.int .i64 K)).set (m*26+25) (.int .i64 ((K:Int)+1)))) (Zah.own_ HF.out (by simp;exact hyl) (by simp only [List.length_append,List.length_set] at hcs ⊢;exact hcs) hbg hnc (by unfold maxLen;omega))
   have HOF:=qh (Only w.heap.size (gOf (some ⟨gb,0,none⟩)) w ((wo.setCell ⟨gb,m*26+24,none⟩ (.int .i64 K)).setCell ⟨gb,m*26+25,none⟩ (.int .i64 ((K:Int)+1)))) ((hon.setCell (p:=⟨gb,m*26+24,none⟩) (by simp [gOf]) _).setCell (p:=⟨gb,m*26+25,none⟩) (by simp [gOf]) _)
   rw [hK]
   clear hg hmk hon ho hcs hMS
   go_wp2_with fail
   go_roundw
   case rel=>exact ⟨m+1,_,qo,by rw [HK2.out],qg,HGF.out,HMS.out,HOF.out⟩
   case measure=>exact qn
  ·obtain rfl:m=n:=by omega
   clear hg hmk hon
   go_wp2_with fail
   go_ret
   exact ⟨ys,rfl,HGm.out,HMk.out,HON.out⟩
theorem L_heldSurfaceS {base:Nat} {Q:Option Addr} {qc n k:Nat} {ys:List Value} (w:World) (h:Zah w base 45 26 Q n qc ys) (hk:MkS k n ys n) (hn:n<=5) (h1:k<=100000) :
  Calls Tryz.prog 37 #[.slice Q n qc,.int .i64 k] w λe w'=>e=.returned (.int .i64 ((k+2*n:Nat):Int))/\w=w':=by
 have HG:=hdQ h
 have HMk:=hdQ hk
 clear h hk
 go_enter Tryz.func37,Tryz.ntmps37
 go_wp2_with fail
 go_loopw [1,5] (λq i wr=>∃ (m:Nat),m<=n/\q=.int .i64 ((k+2*m:Nat):Int)/\i=.int .i64 m/\w=wr) (λ_ i _=>n-(RowKit.intOf i).toNat)
 case atStart=>exact ⟨0,Nat.zero_le _,qs,rfl,rfl⟩
 case round =>
  obtain ⟨m,hm,rfl,rfl,rfl⟩:=hrel
  by_cases hlt:m<n
  ·have hyl:=HG.out.len
   obtain ⟨gb,ds,rfl,hbg,ho,hnc,hmax,_⟩:=HG.out.open_ qo
   obtain ⟨K,hK⟩:=qv (k+2*m)
   have hmk:=HMk.out.2 m hlt
   rw [hK] at hmk
   have d24:w.cell? ⟨gb,m*26+24,none⟩=some (.int .i64 K):=by rw [ho.cell,List.getElem?_append_left qo];exact hmk.1
   have d25:w.cell? ⟨gb,m*26+25,none⟩=some (.int .i64 ((K:Int)+1)):=by rw [ho.cell,List.getElem?_append_left qo];exact hmk.2
   have dl:=ho.lt
   unfold maxLen at hmax
   have hw1:IntKind.i64.wrap ((K:Int)+1)=(K:Int)+1:=IntWalk.i64_in _ qo
   have hw2:IntKind.i64.wrap ((K:Int)+1+1)=(K:Int)+2:=by rw [show (K:Int)+1+1=(K:Int)+2 by omega];exact IntWalk.i64_in _ qo
   have hlt':(m:Int)<n:=qo
   have hm0:(0:Int)<=m:=qo
   have HK2:=qh ((K:Int)+2=((k+2*(m+1):Nat):Int)) qo
   have e0:((K:Int) != (K:Int))=false:=qs
   have e1:((K:Int)+1 != (K:Int)+1)=false:=qs
   rw [hK]
   clear ho hmk
   go_wp2_with fail
   go_roundw
   case rel=>exact ⟨m+1,qo,by rw [HK2.out],qg,(by trivial)⟩
   case measure=>exact qn
  ·obtain rfl:m=n:=by omega
   go_wp2_with fail
   go_ret
   exact ⟨rfl,rfl⟩
theorem L_markTexture {A:Option Addr} {n c k:Nat} {lg:Int} {cs:List Value} (w:World) (h:Zbu w 1 A n c 3 cs) (hn:n<=1048576) (h1:k<=100000) :
  Calls Tryz.prog 32 #[.agg #[.int .i64 lg,.slice A n c],.int .i64 k] w λe w'=>e=.returned (.int .i64 ((k:Int)+n))/\Zbu w' 1 A n c 3 (ints (Zby k n))/\Only w.heap.size (gOf A) w w':=by
 have HM:=hdQ (L_markIntSG (k:=(k:Int)) (w.alloc (.cells #[.int .i64 lg,.slice A n c] 26)) (h.alloc _) hn qo qo)
 clear h
 go_enter Tryz.func32,Tryz.ntmps32
 go_wp2_with fail
 refine HM.out.mono ?_
 rintro e w' ⟨rfl,ho,hon⟩
 have HO:=hdQ ho
 have HON:=qh (Only w.heap.size (gOf A) w w') (Only.trans (Only.of_below ((Below.refl _ _).alloc (Nat.le_refl _) _) _) hon qs (λx hx=>hx))
 clear ho hon
 go_wp2_with fail
 go_ret
 exact ⟨rfl,HO.out,HON.out⟩
theorem L_heldTexture {A:Option Addr} {n c k:Nat} {lg:Int} (w:World) (h:Zbu w 1 A n c 3 (ints (Zby k n))) (hn:n<=1048576) (h1:k<=100000) :
  Calls Tryz.prog 35 #[.agg #[.int .i64 lg,.slice A n c],.int .i64 k] w λe w'=>e=.returned (.int .i64 ((k:Int)+n))/\Below w.heap.size w w':=by
 have HM:=hdQ (L_heldIntSG (k:=(k:Int)) (w.alloc (.cells #[.int .i64 lg,.slice A n c] 26)) (h.alloc _) hn qo qo)
 have hge:¬ (k:Int)+n<0:=qo
 clear h
 go_enter Tryz.func35,Tryz.ntmps35
 go_wp2_with fail
 refine HM.out.mono ?_
 rintro e w' ⟨rfl,rfl⟩
 go_wp2_with fail
 go_ret
 exact ⟨rfl,bll⟩
structure SceneF (w:World) (b H:Nat) (s:EScene) (T:Option Addr) (tc:Nat) (P:Option Addr) (pc:Nat) (Q:Option Addr) (qc:Nat):Prop where
 tex:Zbu w 1 T s.tex.length tc 3 (ints s.tex)
 texb:∀ y,y∈gOf T->b<=y/\y<H/\y∉gOf Q
 ss:Zah w b 45 26 Q s.ss.length qc (rSurf s.ss)
 ssb:∀ y,y∈gOf Q->y<H
 ps:Zc5 w b H (gOf T++gOf Q) P pc s.ps.length (gP s.ps)
theorem SceneR.toF {w:World} {b:Nat} {s:EScene} {T P Q:Option Addr} {tc pc qc:Nat} (h:SceneR w b [] s T tc P pc Q qc):SceneF w b w.heap.size s T tc P pc Q qc :=
 ⟨h.tex,λy hy=>⟨(h.texb y hy).1,h.tex.lt y hy,(h.texb y hy).2.1⟩,h.ss,h.ss.lt,h.ps.toF⟩
theorem SceneF.step {w w':World} {b H:Nat} {s:EScene} {T P Q:Option Addr} {tc pc qc:Nat} (h:SceneF w b H s T tc P pc Q qc) (hb:Below w.heap.size w w'):SceneF w' b H s T tc P pc Q qc :=
 ⟨Zbu.step hb h.tex,h.texb,Zah.step hb h.ss,h.ssb,h.ps.step hb⟩
def okS (s:EScene):Prop:=s.tex.length<=256/\s.ps.length<=3/\(∀ p∈s.ps,okP p)/\s.ss.length<=5
theorem okS.at_ {s:EScene} (h:okS s):∀ i,i<s.ps.length->okP (gP s.ps i):=λi hi=>by rw [gP_at hi];exact h.2.2.1 _ (List.getElem_mem hi)
structure SceneK (w:World) (b H:Nat) (s:EScene) (T:Option Addr) (tc:Nat) (P:Option Addr) (pc:Nat) (Q:Option Addr) (qc:Nat):Prop where
 tex:Zbu w 1 T s.tex.length tc 3 (ints (Zby 1 s.tex.length))
 ss:∃ ys,Zah w b 45 26 Q s.ss.length qc ys/\MkS (Ks (1+s.tex.length) (gP s.ps) s.ps.length) s.ss.length ys s.ss.length
 ps:Zc5 w b H (gOf T++gOf Q) P pc s.ps.length (mixP (1+s.tex.length) (gP s.ps) s.ps.length)
theorem SceneK.step {w w':World} {b H:Nat} {s:EScene} {T P Q:Option Addr} {tc pc qc:Nat} (h:SceneK w b H s T tc P pc Q qc) (hb:Below w.heap.size w w'):SceneK w' b H s T tc P pc Q qc:=by
 obtain ⟨h1,⟨ys,h2,h3⟩,h4⟩:=h
 exact ⟨Zbu.step hb h1,⟨ys,Zah.step hb h2,h3⟩,h4.step hb⟩
def totS (s:EScene):Nat:=Ks (1+s.tex.length) (gP s.ps) s.ps.length+2*s.ss.length
theorem L_markScene {b H:Nat} {s:EScene} {TX P Q:Option Addr} {tc pc qc:Nat} (w:World) (h:SceneF w b H s TX tc P pc Q qc) (hk:okS s) (hb:b<=w.heap.size) (hH:H<=w.heap.size) :
  Calls Tryz.prog 8 #[vScene s TX tc P pc Q qc,.int .i64 1] w λe w'=>e=.returned (.int .i64 ((totS s:Nat):Int))/\SceneK w' b H s TX tc P pc Q qc/\Below b w w'/\(∀ y,H<=y->y<w.heap.size->w'.heap[y]? = w.heap[y]?):=by
 have HK1:=Ks_le (k:=1+s.tex.length) (g:=gP s.ps) s.ps.length hk.at_
 have hk1:=hk.1
 have hk2:=hk.2.1
 have hk4:=hk.2.2.2
 have HKA:=hdQ hk.at_
 have HH:=hdQ h
 obtain ⟨WA,hWA⟩:=qv (w.alloc (.cells ⟨cS s TX tc P pc Q qc⟩ 30))
 have hf:=h.step (w':=WA) (by rw [<- hWA];exact (Below.refl _ _).alloc (Nat.le_refl _) _)
 have HF:=hdQ hf
 have HBX:=qh (Own WA w.heap.size 30 (cS s TX tc P pc Q qc)) (by rw [<- hWA];exact Own.new w _ _)
 have HBA:=qh (Below w.heap.size w WA) (by rw [<- hWA];exact (Below.refl _ _).alloc (Nat.le_refl _) _)
 have hza:w.heap.size<WA.heap.size:=HBX.out.lt
 have HMT:=qh (Calls Tryz.prog 32 #[.agg #[.int .i64 s.log,.slice TX s.tex.length tc],.int .i64 1] WA λe w'=>e=.returned (.int .i64 ((1+s.tex.length:Nat):Int))/\Zbu w' 1 TX s.tex.length tc 3 (ints (Zby 1 s.tex.length))/\Only WA.heap.size (gOf TX) WA w') (by
  have:=L_markTexture (k:=1) (lg:=s.log) WA hf.tex qo qo
  rw [show ((1:Nat):Int)+s.tex.length=((1+s.tex.length:Nat):Int) by omega] at this
  exact this)
 obtain ⟨K1,hK1⟩:=qv (1+s.tex.length)
 obtain ⟨K2,hK2⟩:=qv (Ks K1 (gP s.ps) s.ps.length)
 obtain ⟨K3,hK3⟩:=qv (K2+2*s.ss.length)
 have HT:=qh (totS s=K3) (by unfold totS;rw [hK1,hK2,hK3])
 rw [hK1] at HMT HK1
 rw [hK2] at HK1
 have x7:WA.cell? ⟨w.heap.size,7,none⟩=some (.int .i64 s.log):=HBX.out.cell 7
 have x8:WA.cell? ⟨w.heap.size,8,none⟩=some (.slice TX s.tex.length tc):=HBX.out.cell 8
 clear h hf hk
 go_enter Tryz.func8,Tryz.ntmps8
 go_wp2_with (first|fail)
 rw [show (w.alloc (.cells #[.int .i64 s.a,.int .i64 s.b,.int .i64 s.c,.int .i64 s.d,.bool s.e,.int .i64 s.f,.int .i64 s.g,.int .i64 s.log,.slice TX s.tex.length tc,.slice P s.ps.length pc,.slice Q s.ss.length qc,.int .i64 s.side] 30))=WA from hWA]
 clear hWA
 (with_reducible refine HMT.out.mono ?_)
 rintro e w2 ⟨rfl,ht2,ho2⟩
 have hz2:=ho2.size
 have HT2:=hdQ ht2
 have HBX2:=qh (Own w2 w.heap.size 30 (cS s TX tc P pc Q qc)) (ho2.own HBX.out hza (λq=>by have:=(HF.out.texb _ q).2.1;omega))
 have HQ2:=qh (Zah w2 b 45 26 Q s.ss.length qc (rSurf s.ss)) (HF.out.ss.keep (λy hy=>ho2.block y (HF.out.ss.lt y hy) (λq=>(HF.out.texb y q).2.2 hy)))
 have HP2:=qh (Zc5 w2 b H (gOf TX++gOf Q) P pc s.ps.length (gP s.ps)) (HF.out.ps.keep hz2 (λy _ hl _ hx=>ho2.block y hl (λq=>hx (by simp [q]))))
 have HB2:=qh (Below b w w2) ((HBA.out.mono hb).trans (ho2.below qo (λy hy=>(HF.out.texb y hy).1)))
 have HM2:=qh (∀ y,H<=y->y<w.heap.size->w2.heap[y]? = w.heap[y]?) (λy h1 h2=>(ho2.block y qo (λq=>by have:=(HF.out.texb y q).2.1;omega)).trans (HBA.out.block y h2))
 have HMP:=hdQ (L_markProgramS (k:=K1) w2 HP2.out qo HKA.out hk2 qo qo)
 rw [hK2] at HMP
 have x9:w2.cell? ⟨w.heap.size,9,none⟩=some (.slice P s.ps.length pc):=HBX2.out.cell 9
 have xl2:=HBX2.out.lt
 clear ht2 ho2 x7 x8
 go_wp2_with fail
 (with_reducible refine HMP.out.mono ?_)
 rintro e w3 ⟨rfl,hp3,hb3,hm3⟩
 have hz3:=hb3.size
 have HP3:=hdQ hp3
 have HBX3:=qh (Own w3 w.heap.size 30 (cS s TX tc P pc Q qc)) ((hm3 _ xl2 (.inl hH)).trans HBX2.out)
 have HT3:=qh (Zbu w3 1 TX s.tex.length tc 3 (ints (Zby 1 s.tex.length))) (HT2.out.keep (λy hy hl=>hm3 y hl (.inr (by simp [hy]))))
 have HQ3:=qh (Zah w3 b 45 26 Q s.ss.length qc (rSurf s.ss)) (HQ2.out.keep (λy hy=>hm3 y (HQ2.out.lt y hy) (.inr (by simp [hy]))))
 have HB3:=qh (Below b w w3) (HB2.out.trans hb3)
 have HM3:=qh (∀ y,H<=y->y<w.heap.size->w3.heap[y]? = w.heap[y]?) (λy h1 h2=>(hm3 y qo (.inl h1)).trans (HM2.out y h1 h2))
 have HMS:=hdQ (L_markSurfaceS (k:=K2) w3 HQ3.out hk4 qo)
 rw [hK3] at HMS
 have x10:w3.cell? ⟨w.heap.size,10,none⟩=some (.slice Q s.ss.length qc):=HBX3.out.cell 10
 have xl3:=HBX3.out.lt
 clear hp3 hb3 hm3 x9
 go_wp2_with fail
 (with_reducible refine HMS.out.mono ?_)
 rintro e w4 ⟨ys,rfl,hg4,hk4',ho4⟩
 have HT4:=qh (Zbu w4 1 TX s.tex.length tc 3 (ints (Zby 1 s.tex.length))) (HT3.out.keep (λy hy hl=>ho4.block y hl (HF.out.texb y hy).2.2))
 have HP4:=qh (Zc5 w4 b H (gOf TX++gOf Q) P pc s.ps.length (mixP K1 (gP s.ps) s.ps.length)) (HP3.out.keep ho4.size (λy _ hl _ hx=>ho4.block y hl (λq=>hx (by simp [q]))))
 have HB4:=qh (Below b w w4) (HB3.out.trans (ho4.below qo (λy hy=>HF.out.ss.ge y hy)))
 have HM4:=qh (∀ y,H<=y->y<w.heap.size->w4.heap[y]? = w.heap[y]?) (λy h1 h2=>(ho4.block y qo (λq=>by have:=HF.out.ssb y q;omega)).trans (HM3.out y h1 h2))
 have HG4:=hdQ hg4
 have HY4:=hdQ hk4'
 clear hg4 hk4' ho4 x10
 go_wp2_with fail
 go_ret
 exact ⟨by rw [HT.out];rfl,⟨HT4.out,⟨ys,HG4.out,by rw [hK1,hK2];exact HY4.out⟩,by rw [hK1];exact HP4.out⟩,HB4.out,HM4.out⟩
theorem L_heldScene {b H:Nat} {s:EScene} {TX P Q:Option Addr} {tc pc qc:Nat} (w:World) (h:SceneK w b H s TX tc P pc Q qc) (hk:okS s) :
  Calls Tryz.prog 9 #[vScene s TX tc P pc Q qc,.int .i64 1] w λe w'=>e=.returned (.int .i64 ((totS s:Nat):Int))/\Below w.heap.size w w':=by
 have HK1:=Ks_le (k:=1+s.tex.length) (g:=gP s.ps) s.ps.length hk.at_
 have hk1:=hk.1
 have hk2:=hk.2.1
 have hk4:=hk.2.2.2
 have HKA:=hdQ hk.at_
 obtain ⟨WA,hWA⟩:=qv (w.alloc (.cells ⟨cS s TX tc P pc Q qc⟩ 30))
 have hf:=h.step (w':=WA) (by rw [<- hWA];exact (Below.refl _ _).alloc (Nat.le_refl _) _)
 have HF:=hdQ hf
 have HBX:=qh (Own WA w.heap.size 30 (cS s TX tc P pc Q qc)) (by rw [<- hWA];exact Own.new w _ _)
 have HBA:=qh (Below w.heap.size w WA) (by rw [<- hWA];exact (Below.refl _ _).alloc (Nat.le_refl _) _)
 have hza:w.heap.size<WA.heap.size:=HBX.out.lt
 have HMT:=qh (Calls Tryz.prog 35 #[.agg #[.int .i64 s.log,.slice TX s.tex.length tc],.int .i64 1] WA λe w'=>e=.returned (.int .i64 ((1+s.tex.length:Nat):Int))/\Below WA.heap.size WA w') (by
  have:=L_heldTexture (k:=1) (lg:=s.log) WA hf.tex qo qo
  rw [show ((1:Nat):Int)+s.tex.length=((1+s.tex.length:Nat):Int) by omega] at this
  exact this)
 obtain ⟨K1,hK1⟩:=qv (1+s.tex.length)
 obtain ⟨K2,hK2⟩:=qv (Ks K1 (gP s.ps) s.ps.length)
 obtain ⟨K3,hK3⟩:=qv (K2+2*s.ss.length)
 have HT:=qh (totS s=K3) (by unfold totS;rw [hK1,hK2,hK3])
 have HPP:=qh (∀ wx,Below WA.heap.size WA wx->Zc5 wx b H (gOf TX++gOf Q) P pc s.ps.length (mixP K1 (gP s.ps) s.ps.length)) (λwx q=>by rw [<- hK1];exact hf.ps.step q)
 obtain ⟨ys,hy1,hy2⟩:=hf.ss
 rw [hK1,hK2] at hy2
 have HQQ:=qh (∀ wx,Below WA.heap.size WA wx->Zah wx b 45 26 Q s.ss.length qc ys) (λwx q=>Zah.step q hy1)
 have HYY:=hdQ hy2
 rw [hK1] at HMT HK1
 rw [hK2] at HK1
 have n1:¬ (K1:Int)<0:=qo
 have n2:¬ (K2:Int)<0:=qo
 have n3:¬ (K3:Int)<0:=qo
 have x7:WA.cell? ⟨w.heap.size,7,none⟩=some (.int .i64 s.log):=HBX.out.cell 7
 have x8:WA.cell? ⟨w.heap.size,8,none⟩=some (.slice TX s.tex.length tc):=HBX.out.cell 8
 clear h hf hk hy1 hy2
 go_enter Tryz.func9,Tryz.ntmps9
 go_wp2_with (first|fail)
 rw [show (w.alloc (.cells #[.int .i64 s.a,.int .i64 s.b,.int .i64 s.c,.int .i64 s.d,.bool s.e,.int .i64 s.f,.int .i64 s.g,.int .i64 s.log,.slice TX s.tex.length tc,.slice P s.ps.length pc,.slice Q s.ss.length qc,.int .i64 s.side] 30))=WA from hWA]
 clear hWA
 (with_reducible refine HMT.out.mono ?_)
 rintro e w2 ⟨rfl,hb2⟩
 have hz2:=hb2.size
 have HB2:=hdQ hb2
 have HBX2:=hdQ (Own.step hb2 HBX.out)
 have HMP:=hdQ (L_heldProgramS (k:=K1) w2 (HPP.out w2 hb2) HKA.out hk2 qo qo)
 rw [hK2] at HMP
 have x9:w2.cell? ⟨w.heap.size,9,none⟩=some (.slice P s.ps.length pc):=HBX2.out.cell 9
 have xl2:=HBX2.out.lt
 clear hb2 x7 x8
 go_wp2_with fail
 (with_reducible refine HMP.out.mono ?_)
 rintro e w3 ⟨rfl,hb3⟩
 have hz3:=hb3.size
 have HB3:=qh (Below WA.heap.size WA w3) (Below.step hb3 HB2.out hz2)
 have HBX3:=hdQ (Own.step hb3 HBX2.out)
 have HMS:=hdQ (L_heldSurfaceS (k:=K2) w3 (HQQ.out w3 HB3.out) HYY.out hk4 qo)
 rw [hK3] at HMS
 have x10:w3.cell? ⟨w.heap.size,10,none⟩=some (.slice Q s.ss.length qc):=HBX3.out.cell 10
 have xl3:=HBX3.out.lt
 clear hb3 x9
 go_wp2_with fail
 (with_reducible refine HMS.out.mono ?_)
 rintro e w4 ⟨rfl,rfl⟩
 go_wp2_with fail
 go_ret
 exact ⟨by rw [HT.out];rfl,HBA.out.trans (HB3.out.mono qo)⟩
end Go.Proofs.YticdknjoapdmeaaGreatDoor
namespace Go.Proofs.YticdknjoapdmeaaGreatDoor
set_option maxHeartbeats 4000000
open Go.ChangeShapes Go.WideShapes Go.ChangeAt Go.RowKit
def LawWalkH (laid:List (String×DataW Unit)) (F:FuncId) (ts:List TypeId):Prop :=
 ∀ (H:Type) (enc:TypeId×Value->H) (W:World) (base:Nat) (args:Array Value) (ds:List (DataW H)) (ps:List MemPlace),
  DataW.TrodAll enc Tryz.prog W 0 (λ_=>true) true ts args.toList ds ps->(∀ (j:Nat) t v,ts[j]? = some t->args[j]? = some v->Value.okWide Tryz.prog W .any base t v)->(∀ x∈ps,x.block<W.heap.size) ->
  (DataW.weightsEach Tryz.prog ts ds).all (· <= reachBytes)=true->laidMetH Tryz.prog laid W->W.ShapedOpen Tryz.prog ->
  Calls Tryz.prog F args W λe W'=>e=.returned (.bool true)/\Below W.heap.size W W'
set_option maxRecDepth 100000 in
theorem law_liftedH (laid:List (String×DataW Unit)) (F:FuncId) (fn:Func) (s:ChangeSpec) (ts:List TypeId) (os:Os) (started:os.Started) (H:Type) (enc:TypeId×Value->H)
  (hfn:Tryz.checked.prog.funcs[F]? = some fn) (hidx:Tryz.checked.prog.inits.idxOf? F=none) (hp:fn.params=⟨ts⟩) (hr:fn.resultTypes = #[4]) (hv:s.vars=[])
  (hs:∀ ds:List (DataW H),ds.length=ts.length->(s.fn H (ds++[])).results=[.lit (.bool true)]/\(s.fn H (ds++[])).args=ds/\(s.fn H (ds++[])).vars=[])
  (hread:∀ t∈ts,Tryz.prog.readableRec t=true/\t<Tryz.prog.types.size)
  (hwit:∃ (w:World) (tape:Tape) (i:Input),w.os=os/\(w.forCall tape i).Shaped Tryz.checked.prog/\i.vars=[]/\Input.okWide Tryz.checked.prog (w.forCall tape i) .any w.heap.size F i /\
   ((s.pre enc Tryz.checked.prog fn [] false (w.forCall tape i).memory i.args/\laidMetH Tryz.prog laid (w.forCall tape i).memory)/\sizedMet enc Tryz.checked.prog fn (OpenSpec.ofChange s) false (w.forCall tape i).memory i.args)/\Assume.holds {} Tryz.checked.prog (lone (Frame.enter Tryz.checked.prog F i.args .normal) [] (w.forCall tape i)))
  (hw:LawWalkH laid F ts) :
  ReturnsInHanded {} Tryz.checked os F .any (λw args=>(s.pre enc Tryz.prog fn [] false w args/\laidMetH Tryz.prog laid w)/\sizedMet enc Tryz.prog fn (OpenSpec.ofChange s) false w args) (s.post enc Tryz.prog fn false true false false):=by
 refine returnsInHanded_of_calls (C:=Tryz.checked) P.own started hidx hwit ?_
 intro w0 tape0 i0 _ hsh _ hok hpre _
 obtain ⟨_,_,_,fn',hfn',_,_,_,_,hval00⟩:=hok
 obtain rfl:fn'=fn:=Option.some.inj (hfn'.symm.trans hfn)
 obtain ⟨⟨⟨ds,gs,before,hW0,hcnd⟩,hL0⟩,hz⟩:=hpre
 have hsz0:=hz.weights hW0
 suffices hgo:Calls Tryz.prog F i0.args (w0.forCall tape0 i0) λe W'=>∃ v,e=.returned v/\s.post enc Tryz.prog fn' false true false false (w0.forCall tape0 i0) i0.args v W' from
  hgo.mono λe W' ⟨v,he,hp⟩=>by subst he;exact ChangeSpec.post_blind hp
 have hW:=DataW.Whole.of_heap (w':=w0.forCall tape0 i0) qr hW0
 have hL:laidMetH Tryz.prog laid (w0.forCall tape0 i0):=laidMetH.of_heap qr hL0
 have hval0:=hval00
 clear hW0 hL0 hval00 hz
 generalize hWW:w0.forCall tape0 i0=W at *
 generalize hAA:i0.args=args at *
 generalize hBB:w0.heap.size=base at *
 clear hWW hAA hBB
 have hval:∀ (j:Nat) t v,fn'.params[j]? = some t->args[j]? = some v->Value.okWide Tryz.prog W .any base t v:=hval0
 have hW':=hW
 obtain ⟨p,q,hA0,hV,rfl,hfz,hnd⟩:=hW
 have hA:DataW.TrodAll enc Tryz.prog W 0 (λ_=>true) true fn'.params.toList args.toList ds p:=hA0
 rw [hv] at hV
 obtain ⟨rfl,rfl⟩:=trodVars_none hV
 have hsz:(DataW.weightsEach Tryz.prog ts ds).all (· <= reachBytes)=true:=by
  have e:s.plain.varTypes Tryz.prog=[]:=by
   have:s.plain.vars=[]:=hv
   simp [DataSpec.varTypes,this]
  have h0:(DataW.weightsEach Tryz.prog (fn'.params.toList++s.plain.varTypes Tryz.prog) (ds++[])).all (· <= reachBytes)=true:=hsz0
  rw [e,hp] at h0
  simpa using h0
 rw [hp] at hA hval
 have hlt:∀ x∈p,x.block<W.heap.size:=λx hx=>hW'.lt x (by simp [hx])
 have hl:ds.length=ts.length:=trodAll_len ts _ _ _ hA
 obtain ⟨e1,e2,e3⟩:=hs ds hl
 simp only [List.append_nil] at hW'
 refine (hw H enc W base args ds p hA (λj t v h1 h2=>hval j t v (by simpa using h1) h2) hlt hsz hL hsh).mono λe W' ⟨he,bel⟩=>?_
 subst he
 refine ⟨_,rfl,_,_,_,[],p,[],hW', ?_, ?_, ?_,bel.frame _,λh=>by cases h⟩
 ·rw [e1,hr]
  exact trodAll_mk1 (shut_bool Tryz.underlying4 _)
 ·rw [e2,hp]
  exact trodAll_below ts _ _ _ hread hA bel hlt
 ·rw [e3,hv]
  rfl
theorem H.et:Tryz.prog.globalNamed "errors.errorType" = some 1:=kr
theorem H.rt:(Tryz.prog.cutTypes.find? (·.1 == "internal/reflectlite.rtype")).map (·.2)=some 295:=kr
theorem H.oneRow:((List.range Tryz.prog.types.size).filter λt=>Tryz.prog.rowNamed t [101,114,114,111,114])=[132]:=kr
abbrev handleLaid:List (String×DataW Unit):=[("errors.errorType",.iface "internal/reflectlite.rtype" (.agg [.ptr (.lit (.string [101,114,114,111,114]))]))]
theorem handle_of_laid {W:World} (h:laidMetH Tryz.prog handleLaid W):W.cell? ⟨1,0,none⟩=some (.iface 295 (.agg #[.pointer (some ⟨9,132,none⟩)])):=by
 have h':laidMet Tryz.prog [] W/\handlesMet Tryz.prog handleLaid W:=h
 obtain ⟨name,u,ty,e1,e2,e3,e4,e5⟩:=h'.2 _ (List.mem_singleton.2 rfl)
 have en:name=[101,114,114,111,114]:=(Option.some.inj e1).symm
 subst en
 obtain rfl:=Option.some.inj (H.rt.symm.trans e2)
 have hm:ty∈(List.range Tryz.prog.types.size).filter λt=>Tryz.prog.rowNamed t [101,114,114,111,114]:=List.mem_filter.2 ⟨List.mem_range.2 e3,e4⟩
 rw [H.oneRow] at hm
 obtain rfl:=List.mem_singleton.1 hm
 have hh:typeHandle Tryz.prog 132=.pointer (some ⟨9,132,none⟩):=kr
 rw [hh] at e5
 simpa using World.var?_cell H.et e5 0
end Go.Proofs.YticdknjoapdmeaaGreatDoor
namespace Go.Proofs.YticdknjoapdmeaaGreatDoor
set_option maxHeartbeats 4000000
set_option maxRecDepth 100000
open Go.ChangeShapes Go.WideShapes Go.ChangeAt Go.RowKit Go.Lib
def resS (t:List UInt8):EScene:=if accI t then pI t else Zdp
theorem resS_S (t:List UInt8):(if accS t then pS t else Zdp)=resS t:=by
 obtain ⟨h1,h2⟩:=acc_same t
 unfold resS
 cases h:accS t with
 | false=>rw [<- h1,h];rfl
 | true=>rw [<- h1,h,if_pos rfl,if_pos rfl,h2 h]
theorem resS_ok {t:List UInt8} (hl:t.length<=1048576):okS (resS t)/\Zd5 (resS t):=by
 have hN:Zd5 (pI t):=by rw [pI_to];exact toI_N (λl h=>Nat.le_trans (linesT_len.1 l h) hl) _ (Nat.le_refl _)
 unfold resS
 cases h:accI t with
 | false=>exact ⟨⟨Nat.zero_le _,Nat.zero_le _,λp hp=>(by cases hp),Nat.zero_le _⟩,λp hp=>(by cases hp)⟩
 | true =>
  rw [if_pos rfl]
  refine ⟨?_,hN⟩
  unfold accI at h
  simp only [Bool.and_eq_true,decide_eq_true_eq] at h
  have hi:=sceneIs h.2.1
  refine ⟨(Zd8 hi.tex).2.2.1,hi.np.2,λp hp=>?_,hi.ns⟩
  obtain ⟨i,hi',rfl⟩:=List.getElem_of_mem hp
  have hv:=Zco (Zfk hi.shad hi')
  exact ⟨Zb8 hv,Zbw hv,(hN _ (List.getElem_mem hi')).2.2⟩
set_option maxHeartbeats 32000000 in
theorem L_ExParseScene (t:List UInt8) (w:World) (he:Env w) (hE:ErrT w) :
  Calls Tryz.prog 3 #[str t] w λe w'=>e=.returned (.bool true)/\Below w.heap.size w w':=by
 rcases Nat.lt_or_ge 1048576 t.length with hbig|hs
 ·have hbig':(1048576:Int)<(t.length:Int):=by omega
  go_enter Tryz.func3,Tryz.ntmps3
  go_wp2_with fail
  go_ret
  exact ⟨rfl,bll⟩
 have hns:¬ (1048576:Int)<(t.length:Int):=qo
 have HOKS:=hdQ (resS_ok hs).1
 have HNN:=hdQ (resS_ok hs).2
 have HS:=qh (∀ wx,Calls Tryz.prog 5 #[str t] wx λe w'=>∃ (TX:Option Addr) (tc:Nat) (P:Option Addr) (pc:Nat) (Q:Option Addr) (qc b:Nat),e=.returned (.tuple #[.agg #[.int .i64 (resS t).a,.int .i64 (resS t).b,.int .i64 (resS t).c,.int .i64 (resS t).d,.bool (resS t).e,.int .i64 (resS t).f,.int .i64 (resS t).g,.int .i64 (resS t).log,.slice TX (resS t).tex.length tc,.slice P (resS t).ps.length pc,.slice Q (resS t).ss.length qc,.int .i64 (resS t).side],.bool (accI t)])/\wx.heap.size<=b/\b<=w'.heap.size/\SceneR w' b [] (resS t) TX tc P pc Q qc/\Below wx.heap.size wx w') (λwx=>by
  have:=S_ParseScene t wx hs
  rw [resS_S,(acc_same t).1] at this
  exact this)
 have HI:=qh (∀ wx,Below w.heap.size w wx->Calls Tryz.prog 6 #[str t] wx λe w'=>∃ (TX:Option Addr) (tc:Nat) (P:Option Addr) (pc:Nat) (Q:Option Addr) (qc b:Nat),e=.returned (.tuple #[.agg #[.int .i64 (resS t).a,.int .i64 (resS t).b,.int .i64 (resS t).c,.int .i64 (resS t).d,.bool (resS t).e,.int .i64 (resS t).f,.int .i64 (resS t).g,.int .i64 (resS t).log,.slice TX (resS t).tex.length tc,.slice P (resS t).ps.length pc,.slice Q (resS t).ss.length qc,.int .i64 (resS t).side],.bool (accI t)])/\wx.heap.size<=b/\b<=w'.heap.size/\SceneR w' b [] (resS t) TX tc P pc Q qc/\Below wx.heap.size wx w') (λwx hb=>I_ParseScene t wx hs (he.step hb) (hE.step hb))
 generalize resS t=R at *
 generalize accI t=B at *
 have hBB:(B != B)=false:=qs
 have HLF:=qh (∀ (wx:World) (b:Nat) (TX:Option Addr) (tc:Nat) (P:Option Addr) (pc:Nat) (Q:Option Addr) (qc:Nat),SceneR wx b [] R TX tc P pc Q qc->SceneL 0 wx R TX tc P pc Q qc) (λwx b TX tc P pc Q qc h=>h.lift (h.ps.prB HNN.out))
 clear he hE
 go_enter Tryz.func3,Tryz.ntmps3
 go_wp2_with fail
 (with_reducible refine (HS.out _).mono ?_)
 rintro e w1 ⟨TX1,tc1,P1,pc1,Q1,qc1,b1,rfl,hlo1,hhi1,hr1,hb1⟩
 have hz1:=hb1.size
 have HB1:=hdQ hb1
 have HRA:=qh (SceneR (w1.alloc (.cells #[.int .i64 R.a,.int .i64 R.b,.int .i64 R.c,.int .i64 R.d,.bool R.e,.int .i64 R.f,.int .i64 R.g,.int .i64 R.log,.slice TX1 R.tex.length tc1,.slice P1 R.ps.length pc1,.slice Q1 R.ss.length qc1,.int .i64 R.side] 30)) b1 [] R TX1 tc1 P1 pc1 Q1 qc1) (hr1.step ((Below.refl _ _).alloc (Nat.le_refl _) _))
 have HXA:=qh (Own (w1.alloc (.cells #[.int .i64 R.a,.int .i64 R.b,.int .i64 R.c,.int .i64 R.d,.bool R.e,.int .i64 R.f,.int .i64 R.g,.int .i64 R.log,.slice TX1 R.tex.length tc1,.slice P1 R.ps.length pc1,.slice Q1 R.ss.length qc1,.int .i64 R.side] 30)) w1.heap.size 30 (cS R TX1 tc1 P1 pc1 Q1 qc1)) (Own.new w1 _ #[.int .i64 R.a,.int .i64 R.b,.int .i64 R.c,.int .i64 R.d,.bool R.e,.int .i64 R.f,.int .i64 R.g,.int .i64 R.log,.slice TX1 R.tex.length tc1,.slice P1 R.ps.length pc1,.slice Q1 R.ss.length qc1,.int .i64 R.side])
 have HBA:=qh (Below w.heap.size w (w1.alloc (.cells #[.int .i64 R.a,.int .i64 R.b,.int .i64 R.c,.int .i64 R.d,.bool R.e,.int .i64 R.f,.int .i64 R.g,.int .i64 R.log,.slice TX1 R.tex.length tc1,.slice P1 R.ps.length pc1,.slice Q1 R.ss.length qc1,.int .i64 R.side] 30))) (hb1.alloc qo _)
 have hza:w1.heap.size<(w1.alloc (.cells #[.int .i64 R.a,.int .i64 R.b,.int .i64 R.c,.int .i64 R.d,.bool R.e,.int .i64 R.f,.int .i64 R.g,.int .i64 R.log,.slice TX1 R.tex.length tc1,.slice P1 R.ps.length pc1,.slice Q1 R.ss.length qc1,.int .i64 R.side] 30)).heap.size:=qs
 clear hr1 hb1 HS
 go_wp2_with fail
 (with_reducible refine (HI.out _ HBA.out).mono ?_)
 generalize w1.alloc (.cells #[.int .i64 R.a,.int .i64 R.b,.int .i64 R.c,.int .i64 R.d,.bool R.e,.int .i64 R.f,.int .i64 R.g,.int .i64 R.log,.slice TX1 R.tex.length tc1,.slice P1 R.ps.length pc1,.slice Q1 R.ss.length qc1,.int .i64 R.side] 30)=wA at *
 rintro e w2 ⟨TX2,tc2,P2,pc2,Q2,qc2,b2,rfl,hlo2,hhi2,hr2,hb2⟩
 have hz2:=hb2.size
 have HR2:=hdQ hr2
 have HX2:=qh (Own w2 w1.heap.size 30 (cS R TX1 tc1 P1 pc1 Q1 qc1)) (Own.step hb2 HXA.out)
 have HBA2:=hdQ hb2
 have HB2:=qh (Below w.heap.size w w2) (Below.step hb2 HBA.out HBA.out.size)
 have HR12:=qh (SceneR w2 b1 [] R TX1 tc1 P1 pc1 Q1 qc1) (HRA.out.step hb2)
 clear hr2 hb2
 have x0:w2.cell? ⟨w1.heap.size,0,none⟩=some (.int .i64 R.a):=HX2.out.cell 0
 have x1:w2.cell? ⟨w1.heap.size,1,none⟩=some (.int .i64 R.b):=HX2.out.cell 1
 have x2:w2.cell? ⟨w1.heap.size,2,none⟩=some (.int .i64 R.c):=HX2.out.cell 2
 have x3:w2.cell? ⟨w1.heap.size,3,none⟩=some (.int .i64 R.d):=HX2.out.cell 3
 have x4:w2.cell? ⟨w1.heap.size,4,none⟩=some (.bool R.e):=HX2.out.cell 4
 have x5:w2.cell? ⟨w1.heap.size,5,none⟩=some (.int .i64 R.f):=HX2.out.cell 5
 have x6:w2.cell? ⟨w1.heap.size,6,none⟩=some (.int .i64 R.g):=HX2.out.cell 6
 have x7:w2.cell? ⟨w1.heap.size,7,none⟩=some (.int .i64 R.log):=HX2.out.cell 7
 have x8:w2.cell? ⟨w1.heap.size,8,none⟩=some (.slice TX1 R.tex.length tc1):=HX2.out.cell 8
 have x9:w2.cell? ⟨w1.heap.size,9,none⟩=some (.slice P1 R.ps.length pc1):=HX2.out.cell 9
 have x10:w2.cell? ⟨w1.heap.size,10,none⟩=some (.slice Q1 R.ss.length qc1):=HX2.out.cell 10
 have x11:w2.cell? ⟨w1.heap.size,11,none⟩=some (.int .i64 R.side):=HX2.out.cell 11
 have xl:=HX2.out.lt
 have HEQ:=qh (∀ wx,Below w2.heap.size w2 wx->CB_ Tryz.prog 7 #[.agg #[.int .i64 R.a,.int .i64 R.b,.int .i64 R.c,.int .i64 R.d,.bool R.e,.int .i64 R.f,.int .i64 R.g,.int .i64 R.log,.slice TX2 R.tex.length tc2,.slice P2 R.ps.length pc2,.slice Q2 R.ss.length qc2,.int .i64 R.side],.agg #[.int .i64 R.a,.int .i64 R.b,.int .i64 R.c,.int .i64 R.d,.bool R.e,.int .i64 R.f,.int .i64 R.g,.int .i64 R.log,.slice TX1 R.tex.length tc1,.slice P1 R.ps.length pc1,.slice Q1 R.ss.length qc1,.int .i64 R.side]] wx (.bool true)) (λwx q=>L_eqScene wx (HLF.out _ _ _ _ _ _ _ _ (HR2.out.step q)) (HLF.out _ _ _ _ _ _ _ _ (HR12.out.step q)))
 go_wp2_with fail
 (with_reducible refine (HEQ.out _ bll).mono ?_)
 rintro e w3 ⟨rfl,hb3⟩
 have hz3:=hb3.size
 (try simp at hz3)
 have HX3:=qh (Own w3 w1.heap.size 30 (cS R TX1 tc1 P1 pc1 Q1 qc1)) (Own.step hb3 (HX2.out.alloc _))
 have HY3:=qh (Own w3 w2.heap.size 30 (cS R TX2 tc2 P2 pc2 Q2 qc2)) (Own.step hb3 (Own.new w2 30 #[.int .i64 R.a,.int .i64 R.b,.int .i64 R.c,.int .i64 R.d,.bool R.e,.int .i64 R.f,.int .i64 R.g,.int .i64 R.log,.slice TX2 R.tex.length tc2,.slice P2 R.ps.length pc2,.slice Q2 R.ss.length qc2,.int .i64 R.side]))
 have HB23:=bh w2 hb3
 clear hb3 HEQ x0 x1 x2 x3 x4 x5 x6 x7 x8 x9 x10 x11
 have y0:w3.cell? ⟨w2.heap.size,0,none⟩=some (.int .i64 R.a):=HY3.out.cell 0
 have y1:w3.cell? ⟨w2.heap.size,1,none⟩=some (.int .i64 R.b):=HY3.out.cell 1
 have y2:w3.cell? ⟨w2.heap.size,2,none⟩=some (.int .i64 R.c):=HY3.out.cell 2
 have y3:w3.cell? ⟨w2.heap.size,3,none⟩=some (.int .i64 R.d):=HY3.out.cell 3
 have y4:w3.cell? ⟨w2.heap.size,4,none⟩=some (.bool R.e):=HY3.out.cell 4
 have y5:w3.cell? ⟨w2.heap.size,5,none⟩=some (.int .i64 R.f):=HY3.out.cell 5
 have y6:w3.cell? ⟨w2.heap.size,6,none⟩=some (.int .i64 R.g):=HY3.out.cell 6
 have y7:w3.cell? ⟨w2.heap.size,7,none⟩=some (.int .i64 R.log):=HY3.out.cell 7
 have y8:w3.cell? ⟨w2.heap.size,8,none⟩=some (.slice TX2 R.tex.length tc2):=HY3.out.cell 8
 have y9:w3.cell? ⟨w2.heap.size,9,none⟩=some (.slice P2 R.ps.length pc2):=HY3.out.cell 9
 have y10:w3.cell? ⟨w2.heap.size,10,none⟩=some (.slice Q2 R.ss.length qc2):=HY3.out.cell 10
 have y11:w3.cell? ⟨w2.heap.size,11,none⟩=some (.int .i64 R.side):=HY3.out.cell 11
 have yl:=HY3.out.lt
 have HMK:=hdQ (L_markScene w3 (HR2.out.toF.step HB23.out) HOKS.out qo qo)
 unfold vScene at HMK
 have HHP:=qh (∀ wx,SceneK wx b2 w2.heap.size R TX2 tc2 P2 pc2 Q2 qc2->CB_ Tryz.prog 9 #[.agg #[.int .i64 R.a,.int .i64 R.b,.int .i64 R.c,.int .i64 R.d,.bool R.e,.int .i64 R.f,.int .i64 R.g,.int .i64 R.log,.slice TX2 R.tex.length tc2,.slice P2 R.ps.length pc2,.slice Q2 R.ss.length qc2,.int .i64 R.side],.int .i64 1] wx (.int .i64 ((totS R:Nat):Int))) (λwx q=>L_heldScene wx q HOKS.out)
 generalize totS R=K at *
 go_wp2_with fail
 (with_reducible refine HMK.out.mono ?_)
 rintro e w4 ⟨rfl,hk4,hb4,hm4⟩
 have hz4:=hb4.size
 have HX4:=qh (Own w4 w1.heap.size 30 (cS R TX1 tc1 P1 pc1 Q1 qc1)) ((hb4.block w1.heap.size qo).trans HX3.out)
 have HY4:=qh (Own w4 w2.heap.size 30 (cS R TX2 tc2 P2 pc2 Q2 qc2)) ((hm4 w2.heap.size (Nat.le_refl _) qo).trans HY3.out)
 have HK4:=hdQ hk4
 have HBA4:=qh (Below wA.heap.size wA w4) ((HBA2.out.trans (HB23.out.mono HBA2.out.size)).trans (hb4.mono hlo2))
 have HB4:=qh (Below w.heap.size w w4) (Below.step HBA4.out HBA.out HBA.out.size)
 have HR14:=qh (SceneR w4 b1 [] R TX1 tc1 P1 pc1 Q1 qc1) (HRA.out.step HBA4.out)
 have HHD:=qh (∀ wx,Below w4.heap.size w4 wx->CB_ Tryz.prog 9 #[.agg #[.int .i64 R.a,.int .i64 R.b,.int .i64 R.c,.int .i64 R.d,.bool R.e,.int .i64 R.f,.int .i64 R.g,.int .i64 R.log,.slice TX2 R.tex.length tc2,.slice P2 R.ps.length pc2,.slice Q2 R.ss.length qc2,.int .i64 R.side],.int .i64 1] wx (.int .i64 ((K:Nat):Int))) (λwx q=>HHP.out wx (hk4.step q))
 have hSS:((K:Int) != (K:Int))=false:=qs
 have hSn:¬ (K:Int)<0:=qo
 clear hk4 hb4 hm4 HMK y0 y1 y2 y3 y4 y5 y6 y7 y8 y9 y10 y11 yl
 have y0:w4.cell? ⟨w2.heap.size,0,none⟩=some (.int .i64 R.a):=HY4.out.cell 0
 have y1:w4.cell? ⟨w2.heap.size,1,none⟩=some (.int .i64 R.b):=HY4.out.cell 1
 have y2:w4.cell? ⟨w2.heap.size,2,none⟩=some (.int .i64 R.c):=HY4.out.cell 2
 have y3:w4.cell? ⟨w2.heap.size,3,none⟩=some (.int .i64 R.d):=HY4.out.cell 3
 have y4:w4.cell? ⟨w2.heap.size,4,none⟩=some (.bool R.e):=HY4.out.cell 4
 have y5:w4.cell? ⟨w2.heap.size,5,none⟩=some (.int .i64 R.f):=HY4.out.cell 5
 have y6:w4.cell? ⟨w2.heap.size,6,none⟩=some (.int .i64 R.g):=HY4.out.cell 6
 have y7:w4.cell? ⟨w2.heap.size,7,none⟩=some (.int .i64 R.log):=HY4.out.cell 7
 have y8:w4.cell? ⟨w2.heap.size,8,none⟩=some (.slice TX2 R.tex.length tc2):=HY4.out.cell 8
 have y9:w4.cell? ⟨w2.heap.size,9,none⟩=some (.slice P2 R.ps.length pc2):=HY4.out.cell 9
 have y10:w4.cell? ⟨w2.heap.size,10,none⟩=some (.slice Q2 R.ss.length qc2):=HY4.out.cell 10
 have y11:w4.cell? ⟨w2.heap.size,11,none⟩=some (.int .i64 R.side):=HY4.out.cell 11
 have yl:=HY4.out.lt
 go_wp2_with fail
 (with_reducible refine (HHD.out _ (Below.refl _ _)).mono ?_)
 rintro e w5 ⟨rfl,hb5⟩
 have HB5:=hdQ hb5
 have hz5:=hb5.size
 have HX5:=hdQ (Own.step hb5 HX4.out)
 have HY5:=hdQ (Own.step hb5 HY4.out)
 clear hb5 y0 y1 y2 y3 y4 y5 y6 y7 y8 y9 y10 y11 yl
 go_wp2_with fail
 (with_reducible refine (HI.out _ (Below.step HB5.out HB4.out HB4.out.size)).mono ?_)
 rintro e w6 ⟨TX3,tc3,P3,pc3,Q3,qc3,b3,rfl,hlo6,hhi6,hr6,hb6⟩
 have hz6:=hb6.size
 have HB6:=qh (Below w4.heap.size w4 w6) (Below.step hb6 HB5.out HB5.out.size)
 have HX6:=hdQ (Own.step hb6 HX5.out)
 have HY6:=hdQ (Own.step hb6 HY5.out)
 have HR6:=hdQ hr6
 have HR16:=hdQ (HR14.out.step HB6.out)
 clear hr6 hb6 HI
 have x0:w6.cell? ⟨w1.heap.size,0,none⟩=some (.int .i64 R.a):=HX6.out.cell 0
 have x1:w6.cell? ⟨w1.heap.size,1,none⟩=some (.int .i64 R.b):=HX6.out.cell 1
 have x2:w6.cell? ⟨w1.heap.size,2,none⟩=some (.int .i64 R.c):=HX6.out.cell 2
 have x3:w6.cell? ⟨w1.heap.size,3,none⟩=some (.int .i64 R.d):=HX6.out.cell 3
 have x4:w6.cell? ⟨w1.heap.size,4,none⟩=some (.bool R.e):=HX6.out.cell 4
 have x5:w6.cell? ⟨w1.heap.size,5,none⟩=some (.int .i64 R.f):=HX6.out.cell 5
 have x6:w6.cell? ⟨w1.heap.size,6,none⟩=some (.int .i64 R.g):=HX6.out.cell 6
 have x7:w6.cell? ⟨w1.heap.size,7,none⟩=some (.int .i64 R.log):=HX6.out.cell 7
 have x8:w6.cell? ⟨w1.heap.size,8,none⟩=some (.slice TX1 R.tex.length tc1):=HX6.out.cell 8
 have x9:w6.cell? ⟨w1.heap.size,9,none⟩=some (.slice P1 R.ps.length pc1):=HX6.out.cell 9
 have x10:w6.cell? ⟨w1.heap.size,10,none⟩=some (.slice Q1 R.ss.length qc1):=HX6.out.cell 10
 have x11:w6.cell? ⟨w1.heap.size,11,none⟩=some (.int .i64 R.side):=HX6.out.cell 11
 have xl:=HX6.out.lt
 have HEQ:=qh (∀ wx,Below w6.heap.size w6 wx->CB_ Tryz.prog 7 #[.agg #[.int .i64 R.a,.int .i64 R.b,.int .i64 R.c,.int .i64 R.d,.bool R.e,.int .i64 R.f,.int .i64 R.g,.int .i64 R.log,.slice TX3 R.tex.length tc3,.slice P3 R.ps.length pc3,.slice Q3 R.ss.length qc3,.int .i64 R.side],.agg #[.int .i64 R.a,.int .i64 R.b,.int .i64 R.c,.int .i64 R.d,.bool R.e,.int .i64 R.f,.int .i64 R.g,.int .i64 R.log,.slice TX1 R.tex.length tc1,.slice P1 R.ps.length pc1,.slice Q1 R.ss.length qc1,.int .i64 R.side]] wx (.bool true)) (λwx q=>L_eqScene wx (HLF.out _ _ _ _ _ _ _ _ (HR6.out.step q)) (HLF.out _ _ _ _ _ _ _ _ (HR16.out.step q)))
 go_wp2_with fail
 (with_reducible refine (HEQ.out _ bll).mono ?_)
 rintro e w7 ⟨rfl,hb7⟩
 have hz7:=hb7.size
 (try simp at hz7)
 have HB7:=bh w4 hb7
 have HY7:=qh (Own w7 w2.heap.size 30 (cS R TX2 tc2 P2 pc2 Q2 qc2)) (Own.step hb7 (HY6.out.alloc _))
 clear hb7 x0 x1 x2 x3 x4 x5 x6 x7 x8 x9 x10 x11 xl
 have y0:w7.cell? ⟨w2.heap.size,0,none⟩=some (.int .i64 R.a):=HY7.out.cell 0
 have y1:w7.cell? ⟨w2.heap.size,1,none⟩=some (.int .i64 R.b):=HY7.out.cell 1
 have y2:w7.cell? ⟨w2.heap.size,2,none⟩=some (.int .i64 R.c):=HY7.out.cell 2
 have y3:w7.cell? ⟨w2.heap.size,3,none⟩=some (.int .i64 R.d):=HY7.out.cell 3
 have y4:w7.cell? ⟨w2.heap.size,4,none⟩=some (.bool R.e):=HY7.out.cell 4
 have y5:w7.cell? ⟨w2.heap.size,5,none⟩=some (.int .i64 R.f):=HY7.out.cell 5
 have y6:w7.cell? ⟨w2.heap.size,6,none⟩=some (.int .i64 R.g):=HY7.out.cell 6
 have y7:w7.cell? ⟨w2.heap.size,7,none⟩=some (.int .i64 R.log):=HY7.out.cell 7
 have y8:w7.cell? ⟨w2.heap.size,8,none⟩=some (.slice TX2 R.tex.length tc2):=HY7.out.cell 8
 have y9:w7.cell? ⟨w2.heap.size,9,none⟩=some (.slice P2 R.ps.length pc2):=HY7.out.cell 9
 have y10:w7.cell? ⟨w2.heap.size,10,none⟩=some (.slice Q2 R.ss.length qc2):=HY7.out.cell 10
 have y11:w7.cell? ⟨w2.heap.size,11,none⟩=some (.int .i64 R.side):=HY7.out.cell 11
 have yl:=HY7.out.lt
 go_wp2_with fail
 (with_reducible refine (HHD.out _ HB7.out).mono ?_)
 rintro e w8 ⟨rfl,hb8⟩
 have HB8:=hdQ (Below.step hb8 HB7.out HB7.out.size)
 clear hb8
 go_wp2_with fail
 go_ret
 exact ⟨rfl,HB4.out.trans (HB8.out.mono HB4.out.size)⟩
theorem Env.of_laidH {W:World} {l:List (String×DataW Unit)} (h:laidMetH Tryz.prog l W) (hsh:W.ShapedOpen Tryz.prog) (e0:((l.filter λx=>x.2.handleName?.isNone).filter λx=>x.1 == "internal/strconv.uint64pow10")=[("internal/strconv.uint64pow10",Rows.laid_internal_strconv_uint64pow10)]:=by rfl) (e1:((l.filter λx=>x.2.handleName?.isNone).filter λx=>x.1 == "strconv.ErrRange")=[("strconv.ErrRange",Rows.laid_strconv_ErrRange)]:=by rfl) (e2:((l.filter λx=>x.2.handleName?.isNone).filter λx=>x.1 == "strconv.ErrSyntax")=[("strconv.ErrSyntax",Rows.laid_strconv_ErrSyntax)]:=by rfl):Env W:=Env.of_laid (laidMetH_iff.1 h).1 hsh e0 e1 e2
def Zd3 (cs:Array Value):Obj->Obj
 | .cells _ t frozen=>.cells cs t frozen
 | o=>o
def litCellsT:DataW Unit->Array Value
 | .agg l=>(l.flatMap fun | .lit (.int k z)=>[Value.int k z] | .agg m=>m.map (fun | .lit (.int k z)=>Value.int k z|_=>.nilIface)|_=>[.nilIface]).toArray
 | _ => #[]
noncomputable def lowT:Nat:=(World.holding Tryz.prog default ⟨#[],#[],[]⟩).heap.size
noncomputable def Zc0 (os:Os):World :=
 let w0:=World.holding Tryz.prog os ⟨#[.cells #[.string ⟨#[118,97,108,117,101,32,111,117,116,32,111,102,32,114,97,110,103,101]⟩] 320,.cells #[.string ⟨#[105,110,118,97,108,105,100,32,115,121,110,116,97,120]⟩] 320],#[],[]⟩
 { w0 with heap:=(((((((w0.heap.modify 6 (Zd3 (litCellsT Rows.laid_internal_strconv_uint64pow10))).modify 7 (Zd3 (litCellsT Rows.laid_math_bits_deBruijn32tab))).modify 8 (Zd3 (litCellsT Rows.laid_math_bits_deBruijn64tab))).modify 3 (Zd3 (litCellsT Rows.laid_unicode_utf8_acceptRanges))).modify 2 (Zd3 (litCellsT Rows.laid_unicode_utf8_first))).modify 5 (Zd3 #[.iface 318 (.pointer (some ⟨lowT,0,none⟩))])).modify 4 (Zd3 #[.iface 318 (.pointer (some ⟨lowT+1,0,none⟩))])).modify 1 (Zd3 #[.iface 295 (.agg #[.pointer (some ⟨9,132,none⟩)])]) }
def fnExactParseSceneLaid:List (String×DataW Unit):=[("math/bits.deBruijn32tab",Rows.laid_math_bits_deBruijn32tab),("math/bits.deBruijn64tab",Rows.laid_math_bits_deBruijn64tab),("internal/strconv.uint64pow10",Rows.laid_internal_strconv_uint64pow10),("unicode/utf8.acceptRanges",Rows.laid_unicode_utf8_acceptRanges),("errors.errorType",Rows.laid_errors_errorType),("strconv.ErrRange",Rows.laid_strconv_ErrRange),("strconv.ErrSyntax",Rows.laid_strconv_ErrSyntax),("unicode/utf8.first",Rows.laid_unicode_utf8_first)]
theorem FnExactParseScene_walk:LawWalkH fnExactParseSceneLaid 3 [9]:=by
 intro H enc W base args ds ps hA hval hlt hsz hL hsh
 obtain ⟨v0,rfl,a0⟩:=args1 hA hval
 obtain ⟨sy0,rfl,hsy0⟩:=a0.string Tryz.underlying9
 exact L_ExParseScene sy0.data.toList W (Env.of_laidH hL hsh) (handle_of_laid (laidMetH.filter (λx=>x.1 == "errors.errorType") hL))
end Go.Proofs.YticdknjoapdmeaaGreatDoor
