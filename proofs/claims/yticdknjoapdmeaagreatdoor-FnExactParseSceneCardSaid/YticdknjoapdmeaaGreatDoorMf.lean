/- Several texts in one: PPatI, PSurf, CamW, PCam, ScR, ParA, PTex, ParN, ParS. -/
import Derived.Test.YticdknjoapdmeaaGreatDoorMe
import Derived.Test.YticdknjoapdmeaaGreatDoorMd
import Derived.Test.YticdknjoapdmeaaGreatDoorMc
import Derived.BigQuiet
import Derived.Deep.QuietTactic
import Derived.Deep.RegionHeld3
import Derived.StillTailTactics
set_option linter.unusedVariables false
set_option linter.unusedSimpArgs false
namespace Go.Proofs.YticdknjoapdmeaaGreatDoor
set_option maxHeartbeats 32000000
set_option maxRecDepth 100000
open Go.RowKit Go.Lib
set_option maxHeartbeats 16000000 in
theorem I_ParsePatch (l:List UInt8) (w:World) (hlim:l.length<=1048576) (he:Env w) :
  Calls Tryz.prog 137 #[str l] w λe w'=>e=.returned (outPt (parPt l))/\Below w.heap.size w w':=by
 have HE:=hdQ he
 have HSP:=qh (∀ wx,Calls Tryz.prog 68 #[str l,.string ⟨#[32]⟩] wx (Zc1 (splitB 32 l) wx)) (λwx=>Zfu 32 l wx hlim)
 have HM:=hdQ (λp (h:p∈splitB 32 l)=>Zc3 h)
 have HBAD:=qh ((splitB 32 l).length=4->∀ k (hk:k<(splitB 32 l).length),Zec (splitB 32 l)[k]=none->parPt l=none) (λh k hk h2=>parPt_bad h hk h2)
 have HGOOD:=qh ((splitB 32 l).length=4->(∀ k (hk:k<(splitB 32 l).length),Zec (splitB 32 l)[k]≠none)->parPt l=some (Zfm (splitB 32 l))) (λh h2=>parPt_good h h2)
 have HLEN:=qh ((splitB 32 l).length≠4->parPt l=none) parPt_len
 have hws:=Zbe 32 l
 clear he
 generalize hW:splitB 32 l=ws at *
 by_cases h4:ws.length=4
 case neg =>
  have HPV:=hdQ (HLEN.out h4)
  have hne:((ws.length:Int) != 4)=true:=by simp;omega
  go_enter Tryz.func137,Tryz.ntmps137
  go_wp2_with fail
  refine (HSP.out _).mono ?_
  rintro e w1 ⟨A,c,rfl,hr,hge,hb1⟩
  have hz1:=hb1.size
  (try simp at hz1)
  have HX1:=qh (Own w1 w.heap.size 43 z12L) (Own.step hb1 (Own.new w _ #[_,_,_,_,_,_,_,_,_,_,_,_]))
  have HB1:=bh w hb1
  have x0:=HX1.out.cell 0;have x1:=HX1.out.cell 1;have x2:=HX1.out.cell 2;have x3:=HX1.out.cell 3;have x4:=HX1.out.cell 4;have x5:=HX1.out.cell 5;have x6:=HX1.out.cell 6;have x7:=HX1.out.cell 7;have x8:=HX1.out.cell 8;have x9:=HX1.out.cell 9;have x10:=HX1.out.cell 10;have x11:=HX1.out.cell 11;(try dsimp only [List.getElem?_cons_succ,List.getElem?_cons_zero] at x0 x1 x2 x3 x4 x5 x6 x7 x8 x9 x10 x11)
  have xf:=HX1.out.frozen
  clear hr hge hb1
  go_wp2_with fail
  exact bodyPost_ret (v:=.tuple #[.agg ⟨z12L⟩,.bool false]) (by simp [results,Tryz.results137,go_sem, *]) rfl ⟨by rw [HPV.out];rfl,bll⟩
 case pos =>
 have hne:((ws.length:Int) != 4)=false:=by simp;omega
 have H4:=hdQ h4
 clear h4
 go_enter Tryz.func137,Tryz.ntmps137
 go_wp2_with fail
 refine (HSP.out _).mono ?_
 rintro e w1 ⟨A,c,rfl,hr,hge,hb1⟩
 have hz1:=hb1.size
 (try simp at hz1)
 have HX1:=qh (Own (w1.alloc (.cells ⟨z12L⟩ 43)) w.heap.size 43 z12L) (Own.alloc (Own.step hb1 (Own.new w _ #[_,_,_,_,_,_,_,_,_,_,_,_])) _)
 have HY1:=qh (Own (w1.alloc (.cells ⟨z12L⟩ 43)) w1.heap.size 43 (cPt (vTo ws 0 0) (vTo ws 0 1) (vTo ws 0 2) (vTo ws 0 3))) (Own.new w1 _ #[_,_,_,_,_,_,_,_,_,_,_,_])
 have HB1:=bh w hb1
 have HR1:=hdQ hr
 have HGE:=qh (∀ x,x∈gOf A->w.heap.size+1<=x/\x<w1.heap.size) (λx hx=>by
  have h1:=hge x hx
  obtain ⟨b,o,rfl,hbl,_⟩:=hr.open_.2.2 (by have:=H4.out;omega)
  simp [gOf] at hx
  simp at h1
  omega)
 clear hr hge hb1
 go_wp2_with fail
 go_loopw [6,7,8,9,19] (λ_ _ _ _ i_ wr=>∃ k:Nat,k<=ws.length/\i_=.int .i64 k/\Hid (∀ j (hj:j<ws.length),j<k->Zec ws[j]≠none)/\Own wr w.heap.size 43 z12L/\Own wr w1.heap.size 43 (cPt (vTo ws k 0) (vTo ws k 1) (vTo ws k 2) (vTo ws k 3))/\RS wr 1 A ws.length c (Zam ws)/\Below w.heap.size w wr) (λ_ _ _ _ i_ _=>ws.length-(RowKit.intOf i_).toNat)
 case atStart=>exact ⟨0,Nat.zero_le _,rfl,hdQ (λj _ h=>absurd h qo),HX1.out,HY1.out,HR1.out.alloc _,bll⟩
 case round =>
  obtain ⟨k,hk,rfl,hall,hx,hy,hr,hb⟩:=hrel
  obtain ⟨wo,rfl⟩:=qe wr
  have hz:=hb.size
  have HX:=hdQ hx
  have HY:=hdQ hy
  have HR:=hdQ hr
  have HB:=hdQ hb
  have hxl:=hx.lt
  have hyl:=hy.lt
  clear hx hy hr hb HX1 HY1 HR1
  by_cases hlt:k<ws.length
  ·obtain ⟨b,o,rfl,hbl,hcell⟩:=HR.out.open_.2.2 qo
   have c0:wo.cell? ⟨b,o+k,none⟩=some (str ws[k]):=by rw [hcell k qo,Zfd hlt]
   have i0:(0:Int)<=k:=qo
   have i1:(k:Int)<ws.length:=qo
   have hcl:=HR.out.open_
   have HPV:=qh (∀ wx,Below w.heap.size w wx->CB_ Tryz.prog 197 #[str ws[k]] wx (outV (Zec ws[k]))) (λwx hb=>I_ParseVec _ wx (Nat.le_trans (HM.out _ (List.getElem_mem hlt)) hlim) (HE.out.step hb))
   have HV1:=qh (vTo ws (k+1) k=(Zec ws[k]).getD zV) (by rw [vTo_new];unfold vOf;rw [List.getElem?_eq_getElem hlt];rfl)
   have HBK:=qh (Zec ws[k]=none->parPt l=none) (HBAD.out H4.out k hlt)
   have HN1:=qh (Zec ws[k]≠none->∀ j (hj:j<ws.length),j<k+1->Zec ws[j]≠none) (λh j hj hjk=>by
    by_cases e:j=k
    ·subst e;exact h
    ·exact hall.out j hj qo)
   clear hcell HBAD HGOOD
   generalize ws[k]=u at *
   cases hp:Zec u with
   | none =>
    have HPN:=hdQ (HBK.out hp)
    rw [hp] at HPV
    have HPV:Hid (∀ wx,Below w.heap.size w wx->CB_ Tryz.prog 197 #[str u] wx (.tuple #[vVec 0 0 0,.bool false])):=HPV
    clear hp HV1 HBK HN1
    go_wp2_with fail
    refine (HPV.out _ bll).mono ?_
    rintro e w2 ⟨rfl,hb2⟩
    have hz2:=hb2.size
    have HX2:=hdQ (Own.step hb2 HX.out)
    have HB2:=qh (Below w.heap.size w w2) (Below.step hb2 HB.out HB.out.size)
    have x0:=HX2.out.cell 0;have x1:=HX2.out.cell 1;have x2:=HX2.out.cell 2;have x3:=HX2.out.cell 3;have x4:=HX2.out.cell 4;have x5:=HX2.out.cell 5;have x6:=HX2.out.cell 6;have x7:=HX2.out.cell 7;have x8:=HX2.out.cell 8;have x9:=HX2.out.cell 9;have x10:=HX2.out.cell 10;have x11:=HX2.out.cell 11;(try dsimp only [List.getElem?_cons_succ,List.getElem?_cons_zero] at x0 x1 x2 x3 x4 x5 x6 x7 x8 x9 x10 x11)
    have xf:=HX2.out.frozen
    have xl:=HX2.out.lt
    have xn:¬ w.heap.size=w2.heap.size:=qo
    clear hb2
    go_wp2_with fail
    exact bodyPost_ret (v:=.tuple #[.agg ⟨z12L⟩,.bool false]) (by simp [results,Tryz.results137,go_sem, *]) rfl ⟨by rw [HPN.out];rfl,bll⟩
   | some V =>
    rw [hp] at HPV HV1
    have HPV:Hid (∀ wx,Below w.heap.size w wx->CB_ Tryz.prog 197 #[str u] wx (.tuple #[vV V,.bool true])):=HPV
    have HALL:=hdQ (HN1.out (by rw [hp];simp))
    clear hp HBK HN1
    rcases (show k=0∨k=1∨k=2∨k=3 by have:=H4.out;omega) with h0|h0|h0|h0
    ·subst h0
     (try simp only [Nat.add_zero] at c0)
     go_wp2_with fail
     refine (HPV.out _ bll).mono ?_
     rintro e w2 ⟨rfl,hb2⟩
     have hz2:=hb2.size
     have HX2:=hdQ (Own.step hb2 HX.out)
     have HY2:=hdQ (Own.step hb2 HY.out)
     have HR2:=hdQ (RS.step hb2 HR.out)
     have HB2:=qh (Below w.heap.size w w2) (Below.step hb2 HB.out HB.out.size)
     have yf:=HY2.out.frozen
     have yl:=HY2.out.lt
     have y0:=HY2.out.cell 0
     have y1:=HY2.out.cell 1
     have y2:=HY2.out.cell 2
     have yn:¬ w1.heap.size=w2.heap.size:=qo
     have yn2:¬ w2.heap.size=w1.heap.size:=qo
     (try dsimp only [cPt,List.getElem?_cons_succ,List.getElem?_cons_zero] at y0 y1 y2)
     clear hb2
     go_wp2_with fail
     go_roundw
     case rel =>
      refine ⟨0+1,by have:=H4.out;omega,qg,HALL,(owx HX2.out), ?_, ?_,bll⟩
      ·have:=Own.alloc (Own.set_ (Own.set_ (Own.set_ HY2.out 0 (.int .i64 V.1)) 1 (.int .i64 V.2.1)) 2 (.int .i64 V.2.2)) (.cells #[.int .i64 V.1,.int .i64 V.2.1,.int .i64 V.2.2] 40)
       rw [HV1.out,Zas (ws:=ws) (k:=0) (j:=1) qd,Zas (ws:=ws) (k:=0) (j:=2) qd,Zas (ws:=ws) (k:=0) (j:=3) qd]
       exact this
      ·exact (by repeat (first|(with_reducible exact HR2.out)|(with_reducible refine RS.alloc ?_ _)|((with_reducible refine RS.setCell ?_ ?_ _);rotate_left;(intro ad had;injection had with had;subst had;have:=HGE.out b (by simp [gOf]);simp<;>omega))))
     case measure=>exact qn
    ·subst h0
     (try simp only [Nat.add_zero] at c0)
     go_wp2_with fail
     refine (HPV.out _ bll).mono ?_
     rintro e w2 ⟨rfl,hb2⟩
     have hz2:=hb2.size
     have HX2:=hdQ (Own.step hb2 HX.out)
     have HY2:=hdQ (Own.step hb2 HY.out)
     have HR2:=hdQ (RS.step hb2 HR.out)
     have HB2:=qh (Below w.heap.size w w2) (Below.step hb2 HB.out HB.out.size)
     have yf:=HY2.out.frozen
     have yl:=HY2.out.lt
     have y3:=HY2.out.cell 3
     have y4:=HY2.out.cell 4
     have y5:=HY2.out.cell 5
     have yn:¬ w1.heap.size=w2.heap.size:=qo
     have yn2:¬ w2.heap.size=w1.heap.size:=qo
     (try dsimp only [cPt,List.getElem?_cons_succ,List.getElem?_cons_zero] at y3 y4 y5)
     clear hb2
     go_wp2_with fail
     go_roundw
     case rel =>
      refine ⟨1+1,by have:=H4.out;omega,qg,HALL,(owx HX2.out), ?_, ?_,bll⟩
      ·have:=Own.alloc (Own.set_ (Own.set_ (Own.set_ HY2.out 3 (.int .i64 V.1)) 4 (.int .i64 V.2.1)) 5 (.int .i64 V.2.2)) (.cells #[.int .i64 V.1,.int .i64 V.2.1,.int .i64 V.2.2] 40)
       rw [Zas (ws:=ws) (k:=1) (j:=0) qd,HV1.out,Zas (ws:=ws) (k:=1) (j:=2) qd,Zas (ws:=ws) (k:=1) (j:=3) qd]
       exact this
      ·exact (by repeat (first|(with_reducible exact HR2.out)|(with_reducible refine RS.alloc ?_ _)|((with_reducible refine RS.setCell ?_ ?_ _);rotate_left;(intro ad had;injection had with had;subst had;have:=HGE.out b (by simp [gOf]);simp<;>omega))))
     case measure=>exact qn
    ·subst h0
     (try simp only [Nat.add_zero] at c0)
     go_wp2_with fail
     refine (HPV.out _ bll).mono ?_
     rintro e w2 ⟨rfl,hb2⟩
     have hz2:=hb2.size
     have HX2:=hdQ (Own.step hb2 HX.out)
     have HY2:=hdQ (Own.step hb2 HY.out)
     have HR2:=hdQ (RS.step hb2 HR.out)
     have HB2:=qh (Below w.heap.size w w2) (Below.step hb2 HB.out HB.out.size)
     have yf:=HY2.out.frozen
     have yl:=HY2.out.lt
     have y6:=HY2.out.cell 6
     have y7:=HY2.out.cell 7
     have y8:=HY2.out.cell 8
     have yn:¬ w1.heap.size=w2.heap.size:=qo
     have yn2:¬ w2.heap.size=w1.heap.size:=qo
     (try dsimp only [cPt,List.getElem?_cons_succ,List.getElem?_cons_zero] at y6 y7 y8)
     clear hb2
     go_wp2_with fail
     go_roundw
     case rel =>
      refine ⟨2+1,by have:=H4.out;omega,qg,HALL,(owx HX2.out), ?_, ?_,bll⟩
      ·have:=Own.alloc (Own.set_ (Own.set_ (Own.set_ HY2.out 6 (.int .i64 V.1)) 7 (.int .i64 V.2.1)) 8 (.int .i64 V.2.2)) (.cells #[.int .i64 V.1,.int .i64 V.2.1,.int .i64 V.2.2] 40)
       rw [Zas (ws:=ws) (k:=2) (j:=0) qd,Zas (ws:=ws) (k:=2) (j:=1) qd,HV1.out,Zas (ws:=ws) (k:=2) (j:=3) qd]
       exact this
      ·exact (by repeat (first|(with_reducible exact HR2.out)|(with_reducible refine RS.alloc ?_ _)|((with_reducible refine RS.setCell ?_ ?_ _);rotate_left;(intro ad had;injection had with had;subst had;have:=HGE.out b (by simp [gOf]);simp<;>omega))))
     case measure=>exact qn
    ·subst h0
     (try simp only [Nat.add_zero] at c0)
     go_wp2_with fail
     refine (HPV.out _ bll).mono ?_
     rintro e w2 ⟨rfl,hb2⟩
     have hz2:=hb2.size
     have HX2:=hdQ (Own.step hb2 HX.out)
     have HY2:=hdQ (Own.step hb2 HY.out)
     have HR2:=hdQ (RS.step hb2 HR.out)
     have HB2:=qh (Below w.heap.size w w2) (Below.step hb2 HB.out HB.out.size)
     have yf:=HY2.out.frozen
     have yl:=HY2.out.lt
     have y9:=HY2.out.cell 9
     have y10:=HY2.out.cell 10
     have y11:=HY2.out.cell 11
     have yn:¬ w1.heap.size=w2.heap.size:=qo
     have yn2:¬ w2.heap.size=w1.heap.size:=qo
     (try dsimp only [cPt,List.getElem?_cons_succ,List.getElem?_cons_zero] at y9 y10 y11)
     clear hb2
     go_wp2_with fail
     go_roundw
     case rel =>
      refine ⟨3+1,by have:=H4.out;omega,qg,HALL,(owx HX2.out), ?_, ?_,bll⟩
      ·have:=Own.alloc (Own.set_ (Own.set_ (Own.set_ HY2.out 9 (.int .i64 V.1)) 10 (.int .i64 V.2.1)) 11 (.int .i64 V.2.2)) (.cells #[.int .i64 V.1,.int .i64 V.2.1,.int .i64 V.2.2] 40)
       rw [Zas (ws:=ws) (k:=3) (j:=0) qd,Zas (ws:=ws) (k:=3) (j:=1) qd,Zas (ws:=ws) (k:=3) (j:=2) qd,HV1.out]
       exact this
      ·exact (by repeat (first|(with_reducible exact HR2.out)|(with_reducible refine RS.alloc ?_ _)|((with_reducible refine RS.setCell ?_ ?_ _);rotate_left;(intro ad had;injection had with had;subst had;have:=HGE.out b (by simp [gOf]);simp<;>omega))))
     case measure=>exact qn
  ·obtain rfl:k=ws.length:=by omega
   have HPV:=hdQ (HGOOD.out H4.out (λj hj=>hall.out j hj hj))
   have HP:=qh (Zfm ws=ptOf (vTo ws ws.length 0) (vTo ws ws.length 1) (vTo ws ws.length 2) (vTo ws ws.length 3)) (ptTo_end ws).symm
   rw [HP.out] at HPV
   clear HP HBAD HGOOD
   generalize vTo ws ws.length 0=V0 at *
   generalize vTo ws ws.length 1=V1 at *
   generalize vTo ws ws.length 2=V2 at *
   generalize vTo ws ws.length 3=V3 at *
   have y0:=HY.out.cell 0;have y1:=HY.out.cell 1;have y2:=HY.out.cell 2;have y3:=HY.out.cell 3;have y4:=HY.out.cell 4;have y5:=HY.out.cell 5;have y6:=HY.out.cell 6;have y7:=HY.out.cell 7;have y8:=HY.out.cell 8;have y9:=HY.out.cell 9;have y10:=HY.out.cell 10;have y11:=HY.out.cell 11;(try dsimp only [cPt,List.getElem?_cons_succ,List.getElem?_cons_zero] at y0 y1 y2 y3 y4 y5 y6 y7 y8 y9 y10 y11)
   have x0:=HX.out.cell 0;have x1:=HX.out.cell 1;have x2:=HX.out.cell 2;have x3:=HX.out.cell 3;have x4:=HX.out.cell 4;have x5:=HX.out.cell 5;have x6:=HX.out.cell 6;have x7:=HX.out.cell 7;have x8:=HX.out.cell 8;have x9:=HX.out.cell 9;have x10:=HX.out.cell 10;have x11:=HX.out.cell 11;(try dsimp only [List.getElem?_cons_succ,List.getElem?_cons_zero] at x0 x1 x2 x3 x4 x5 x6 x7 x8 x9 x10 x11)
   have xf:=HX.out.frozen
   have nn:¬ w.heap.size=w1.heap.size:=qo
   go_wp2_with fail
   exact bodyPost_ret (v:=.tuple #[.agg ⟨cPt V0 V1 V2 V3⟩,.bool true]) (by simp [results,Tryz.results137,go_sem,cPt, *]) rfl ⟨by rw [HPV.out];rfl,bll⟩
theorem parSurf_no {ws:List (List UInt8)} (h:ws.length≠10):parSurf ws=(zPt,zPt,0,0):=by
 unfold parSurf
 split
 ·simp at h
 ·rfl
theorem ten_words {ws:List (List UInt8)} (h:ws.length=10):∃ a0 a1 a2 a3 a4 a5 a6 a7 a8 a9,ws=[a0,a1,a2,a3,a4,a5,a6,a7,a8,a9]:=by
 match ws,h with
 | [a0,a1,a2,a3,a4,a5,a6,a7,a8,a9],_=>exact ⟨a0,a1,a2,a3,a4,a5,a6,a7,a8,a9,rfl⟩
abbrev Zfq (x:Zdz):List Value:=c26 x.1 x.2.1 x.2.2.1 x.2.2.2
theorem Zek:(Tryz.prog.info? 45).map (·.size)=some 26:=kr
theorem I_parseSurface_no (l:List UInt8) (w:World) (hlim:l.length<=1048576) (hn:(splitB 32 l).length≠10) :
  Calls Tryz.prog 74 #[str l] w λe w'=>e=.returned (.agg ⟨Zfq (parSurf (splitB 32 l))⟩)/\Below w.heap.size w w':=by
 rw [parSurf_no hn]
 have HSP:=qh (∀ wx,Calls Tryz.prog 68 #[str l,.string ⟨#[32]⟩] wx (Zc1 (splitB 32 l) wx)) (λwx=>Zfu 32 l wx hlim)
 generalize hW:splitB 32 l=ws at *
 have hne:((ws.length:Int) != 10)=true:=by simp;omega
 clear hW
 have hal:∀ wx:World,(Instr.alloc 45 true (.tuple #[])).run Tryz.prog wx=.ok (.pointer (some ⟨wx.heap.size,0,none⟩)) (wx.alloc (.cells ⟨z26⟩ 45)):=λwx=>by kernel_rfl
 go_enter Tryz.func74,Tryz.ntmps74
 go_wp2_with (first|(refine Zao rfl 45 rfl (hal _) ?_)|fail)
 refine (HSP.out _).mono ?_
 rintro e w1 ⟨A,c,rfl,hr,hge,hb1⟩
 have hz1:=hb1.size
 (try simp at hz1)
 have HX:=qh (Own w1 w.heap.size 45 z26) (Own.step hb1 (Own.new w _ _))
 have HB1:=bh w hb1
 obtain ⟨w2,hst,hs,hbk,hs2,e1,e2,e3⟩:=Zay (P:=Tryz.prog) (T:=45) (zs:=z26) (k:=0) HX.out Zek qd qr
 have HST:=hdQ hst
 have HR:=qh (w2.heap[w.heap.size]? = some (.cells ⟨z26⟩ 45 (0,0))) hs
 have HB2:=qh (Below w.heap.size w w2) (Below.trans HB1.out ⟨e1,e2,e3,qo,λb h=>hbk b qo⟩)
 clear hr hge hb1 hst hs hbk e1 e2 e3
 go_wp2_with (first|(refine Zaf rfl 45 (.tmp 2) (.tmp 10) rfl rfl rfl HST.out ?_)|fail)
 exact bodyPost_ret (v:=.agg ⟨z26⟩) (results_cell_row Tryz.results74 _ _ w.heap.size _ _ (0,0) _ rfl HR.out Tryz.underlying45 rfl kr) rfl ⟨rfl,HB2.out⟩
theorem jlens {a0 a1 a2 a3 a4 a5 a6 a7 a8 a9:List UInt8} {n:Nat} (h:(join [a0,a1,a2,a3,a4,a5,a6,a7,a8,a9] [32]).length<=n):a0.length<=n/\a1.length<=n/\(join [a2,a3,a4,a5] [32]).length<=n/\(join [a6,a7,a8,a9] [32]).length<=n:=by
 simp [join,joinTail] at h ⊢
 omega
theorem I_parseSurface_yes (l:List UInt8) (w:World) (hlim:l.length<=1048576) (he:Env w) (hn:(splitB 32 l).length=10) :
  Calls Tryz.prog 74 #[str l] w λe w'=>e=.returned (.agg ⟨Zfq (parSurf (splitB 32 l))⟩)/\Below w.heap.size w w':=by
 have HE:=hdQ he
 clear he
 have HSP:=qh (∀ wx,Calls Tryz.prog 68 #[str l,.string ⟨#[32]⟩] wx (Zc1 (splitB 32 l) wx)) (λwx=>Zfu 32 l wx hlim)
 have hjl:(join (splitB 32 l) [32]).length<=1048576:=by rw [(Zcm 32 l).1];exact hlim
 generalize splitB 32 l=ws at *
 obtain ⟨a0,a1,a2,a3,a4,a5,a6,a7,a8,a9,rfl⟩:=ten_words hn
 obtain ⟨jl0,jl1,jl2,jl6⟩:=jlens hjl
 have HPa0:=qh (∀ wx,Below w.heap.size w wx->CB_ Tryz.prog 72 #[str a0] wx (.tuple #[.int .i64 ((parseI a0).getD 0),.bool (parseI a0).isSome])) (λwx hb=>Zej a0 wx (Nat.le_trans jl0 qd) (HE.out.step hb))
 have HPa1:=qh (∀ wx,Below w.heap.size w wx->CB_ Tryz.prog 72 #[str a1] wx (.tuple #[.int .i64 ((parseI a1).getD 0),.bool (parseI a1).isSome])) (λwx hb=>Zej a1 wx (Nat.le_trans jl1 qd) (HE.out.step hb))
 have HJ2:=qh (∀ (wx:World) (A:Option Addr) (c:Nat),RS wx 1 A 4 c (Zam [a2,a3,a4,a5])->CB_ Tryz.prog 45 #[.slice A 4 c,.string ⟨#[32]⟩] wx (str (join [a2,a3,a4,a5] [32]))) (λwx A c h=>I_Join wx h qs qs (Nat.le_trans jl2 qd))
 have HPP2:=qh (∀ wx,Below w.heap.size w wx->CB_ Tryz.prog 137 #[str (join [a2,a3,a4,a5] [32])] wx (.tuple #[.agg ⟨c12 ((parPt (join [a2,a3,a4,a5] [32])).getD zPt)⟩,.bool (parPt (join [a2,a3,a4,a5] [32])).isSome])) (λwx hb=>I_ParsePatch _ wx jl2 (HE.out.step hb))
 have HJ6:=qh (∀ (wx:World) (A:Option Addr) (c:Nat),RS wx 1 A 4 c (Zam [a6,a7,a8,a9])->CB_ Tryz.prog 45 #[.slice A 4 c,.string ⟨#[32]⟩] wx (str (join [a6,a7,a8,a9] [32]))) (λwx A c h=>I_Join wx h qs qs (Nat.le_trans jl6 qd))
 have HPP6:=qh (∀ wx,Below w.heap.size w wx->CB_ Tryz.prog 137 #[str (join [a6,a7,a8,a9] [32])] wx (.tuple #[.agg ⟨c12 ((parPt (join [a6,a7,a8,a9] [32])).getD zPt)⟩,.bool (parPt (join [a6,a7,a8,a9] [32])).isSome])) (λwx hb=>I_ParsePatch _ wx jl6 (HE.out.step hb))
 rw [show parSurf [a0,a1,a2,a3,a4,a5,a6,a7,a8,a9]=((parPt (join [a2,a3,a4,a5] [32])).getD zPt,(parPt (join [a6,a7,a8,a9] [32])).getD zPt,(parseI a0).getD 0,(parseI a1).getD 0) from rfl]
 dsimp only [Zfq]
 generalize parPt (join [a2,a3,a4,a5] [32])=op at *
 generalize parPt (join [a6,a7,a8,a9] [32])=oq at *
 generalize parseI a0=os at *
 generalize parseI a1=ot at *
 generalize op.getD zPt=vp at *;generalize op.isSome=bp at *;generalize oq.getD zPt=vq at *;generalize oq.isSome=bq at *;generalize os.getD 0=vs at *;generalize os.isSome=bs at *;generalize ot.getD 0=vt at *;generalize ot.isSome=bt at *
 generalize join [a2,a3,a4,a5] [32]=j2 at *
 generalize join [a6,a7,a8,a9] [32]=j6 at *
 clear jl0 jl1 jl2 jl6 hjl
 have hal:∀ wx:World,(Instr.alloc 45 true (.tuple #[])).run Tryz.prog wx=.ok (.pointer (some ⟨wx.heap.size,0,none⟩)) (wx.alloc (.cells ⟨z26⟩ 45)):=λwx=>by kernel_rfl
 have hne:((10:Int) != 10)=false:=qd
 go_enter Tryz.func74,Tryz.ntmps74
 go_wp2_with (first|(refine Zao rfl 45 rfl (hal _) ?_)|fail)
 refine (HSP.out _).mono ?_
 rintro e w1 ⟨A,c,rfl,hr,hge,hb1⟩
 have hz1:=hb1.size
 (try simp at hz1)
 simp only [List.length_cons,List.length_nil,Nat.zero_add,Nat.reduceAdd] at hr ⊢
 obtain ⟨hnc,hcm,hop⟩:=hr.open_
 obtain ⟨b,o,rfl,hbl,hcell⟩:=hop qo
 unfold maxLen at hcm
 have hbw:w.heap.size<b:=by have:=hge b (by simp [gOf]);simp at this;omega
 have HX0:=qh (Own (w1.alloc (.cells ⟨z26⟩ 45)) w.heap.size 45 z26) (Own.alloc (Own.step hb1 (Own.new w _ _)) _)
 have HX:=qh (Own (w1.alloc (.cells ⟨z26⟩ 45)) w1.heap.size 45 z26) (Own.new w1 _ _)
 have HB1:=qh (Below w.heap.size w (w1.alloc (.cells ⟨z26⟩ 45))) ((bst hb1).alloc qo _)
 have HR1:=qh (RS (w1.alloc (.cells ⟨z26⟩ 45)) 1 (some ⟨b,o,none⟩) 10 c (Zam [a0,a1,a2,a3,a4,a5,a6,a7,a8,a9])) (hr.alloc _)
 have hlx:w1.heap.size<(w1.alloc (.cells ⟨z26⟩ 45)).heap.size:=qs
 obtain ⟨w2,hst,hs,hbk,hs2,e1,e2,e3⟩:=Zay (P:=Tryz.prog) (T:=45) (zs:=z26) (k:=0) HX.out Zek qd qr
 have HST:=hdQ hst
 have HXa:=qh (Own w2 w1.heap.size 45 z26) hs
 have HX0a:=qh (Own w2 w.heap.size 45 z26) ((hbk _ omm).trans HX0.out)
 have HB2:=qh (Below w.heap.size w w2) (Below.trans HB1.out ⟨e1,e2,e3,qo,λb h=>hbk b omm⟩)
 have HR2:=qh (RS w2 1 (some ⟨b,o,none⟩) 10 c (Zam [a0,a1,a2,a3,a4,a5,a6,a7,a8,a9])) (HR1.out.keep qo (λ_ x hx hl=>hbk x (by simp [gOf] at hx;omega)))
 have hz2:w2.heap.size=(w1.alloc (.cells ⟨z26⟩ 45)).heap.size:=hs2
 (try simp at hz2)
 have q0:w2.cell? ⟨b,o,none⟩=some (str a0):=by
  have:=HR2.out.open_.2.2 qo
  obtain ⟨b',o',e,_,h⟩:=this
  obtain ⟨rfl,rfl⟩:b'=b/\o'=o:=by injection e with e;injection e with e1 e2;exact ⟨e1.symm,e2.symm⟩
  exact h 0 qo
 clear hst hs hbk hs2 e1 e2 e3 HX HX0 HR1 HB1 hr hge hb1 hop hcell
 go_wp2_with (first|(refine Zao rfl 45 rfl (hal _) ?_)|(refine Zaf rfl 45 (.tmp 4) (.tmp 11) rfl rfl rfl HST.out ?_)|fail)
 refine (HPa0.out _ HB2.out).mono ?_
 rintro e w3 ⟨rfl,hb3⟩
 have hz3:=hb3.size
 have HXb:=qh (Own w3 w1.heap.size 45 z26) (Own.step hb3 HXa.out)
 have HX0b:=qh (Own (w3.setCell ⟨w1.heap.size,24,none⟩ (.int .i64 vs)) w.heap.size 45 z26) ((Own.step hb3 HX0a.out).far (p:=⟨w1.heap.size,24,none⟩) (by show w.heap.size≠w1.heap.size;omega) _)
 have x24:w3.cell? ⟨w1.heap.size,24,none⟩=some (.int .i64 0):=HXb.out.cell 24
 have f24:=HXb.out.frozen 24
 have l24:=HXb.out.lt
 have HXc:=qh (Own (w3.setCell ⟨w1.heap.size,24,none⟩ (.int .i64 vs)) w1.heap.size 45 (c26 zPt zPt vs 0)) (HXb.out.set_ 24 (.int .i64 vs))
 have HR3:=qh (RS (w3.setCell ⟨w1.heap.size,24,none⟩ (.int .i64 vs)) 1 (some ⟨b,o,none⟩) 10 c (Zam [a0,a1,a2,a3,a4,a5,a6,a7,a8,a9])) ((HR2.out.step hb3).setCell (p:=⟨w1.heap.size,24,none⟩) (by rintro ad ⟨⟩;show b≠w1.heap.size;omega) _)
 have HB3:=qh (Below w.heap.size w (w3.setCell ⟨w1.heap.size,24,none⟩ (.int .i64 vs))) ((Below.step hb3 HB2.out HB2.out.size).setCell (p:=⟨w1.heap.size,24,none⟩) (by show w.heap.size<=w1.heap.size;omega) _)
 have q1:(w3.setCell ⟨w1.heap.size,24,none⟩ (.int .i64 vs)).cell? ⟨b,o+1,none⟩=some (str a1):=by
  have:=HR3.out.open_.2.2 qo
  obtain ⟨b',o',e,_,h⟩:=this
  obtain ⟨rfl,rfl⟩:b'=b/\o'=o:=by injection e with e;injection e with e1 e2;exact ⟨e1.symm,e2.symm⟩
  exact h 1 qo
 have nbx:¬ b=w1.heap.size:=qo
 clear hb3 HXa HX0a HR2
 go_wp2_with fail
 refine (HPa1.out _ HB3.out).mono ?_
 rintro e w4 ⟨rfl,hb4⟩
 have hz4:=hb4.size
 (try simp at hz4)
 have HXd:=qh (Own w4 w1.heap.size 45 (c26 zPt zPt vs 0)) (Own.step hb4 HXc.out)
 have HX0d:=qh (Own (w4.setCell ⟨w1.heap.size,25,none⟩ (.int .i64 vt)) w.heap.size 45 z26) ((Own.step hb4 HX0b.out).far (p:=⟨w1.heap.size,25,none⟩) (by show w.heap.size≠w1.heap.size;omega) _)
 have x25:w4.cell? ⟨w1.heap.size,25,none⟩=some (.int .i64 0):=HXd.out.cell 25
 have f25:=HXd.out.frozen 25
 have l25:=HXd.out.lt
 have HXe:=qh (Own (w4.setCell ⟨w1.heap.size,25,none⟩ (.int .i64 vt)) w1.heap.size 45 (c26 zPt zPt vs vt)) (HXd.out.set_ 25 (.int .i64 vt))
 have HR4:=qh (RS (w4.setCell ⟨w1.heap.size,25,none⟩ (.int .i64 vt)) 1 (some ⟨b,o,none⟩) 10 c (Zam [a0,a1,a2,a3,a4,a5,a6,a7,a8,a9])) ((HR3.out.step hb4).setCell (p:=⟨w1.heap.size,25,none⟩) (by rintro ad ⟨⟩;show b≠w1.heap.size;omega) _)
 have HB4:=qh (Below w.heap.size w (w4.setCell ⟨w1.heap.size,25,none⟩ (.int .i64 vt))) ((Below.step hb4 HB3.out HB3.out.size).setCell (p:=⟨w1.heap.size,25,none⟩) (by show w.heap.size<=w1.heap.size;omega) _)
 have HS2:=qh (RS (w4.setCell ⟨w1.heap.size,25,none⟩ (.int .i64 vt)) 1 (some ⟨b,o+2,none⟩) 4 (c-2) (Zam [a2,a3,a4,a5])) (by have:=HR4.out.part rfl 2 6 (c-2) qo qo qo (by unfold maxLen;omega);exact this)
 clear hb4 HXb HXc HX0b HR3 x24 f24 q0 q1
 go_wp2_with fail
 refine (HJ2.out _ _ _ HS2.out).mono ?_
 rintro e w5 ⟨rfl,hb5⟩
 have hz5:=hb5.size
 (try simp at hz5)
 have HB5:=qh (Below w.heap.size w w5) (Below.step hb5 HB4.out HB4.out.size)
 go_wp2_with fail
 refine (HPP2.out _ HB5.out).mono ?_
 rintro e w6 ⟨rfl,hb6⟩
 have hz6:=hb6.size
 obtain ⟨w7,hst,hs,hbk,hs2,e1,e2,e3⟩:=Zay (P:=Tryz.prog) (T:=43) (zs:=c12 vp) (k:=0) (Own.step hb6 (Own.step hb5 HXe.out)) (by rw [Zb5];kernel_rfl) (by rw [Zb5,Zdh];decide) qr
 have HST7:=hdQ hst
 have HXf:=qh (Own w7 w1.heap.size 45 (c26 vp zPt vs vt)) (by have:=hs;rw [Zb5] at this;exact this)
 have HX0f:=qh (Own w7 w.heap.size 45 z26) ((hbk _ qo).trans (Own.step hb6 (Own.step hb5 HX0d.out)))
 have HB7:=qh (Below w.heap.size w w7) (Below.trans (Below.step hb6 HB5.out HB5.out.size) ⟨e1,e2,e3,qo,λb h=>hbk b qo⟩)
 have HR7:=qh (RS w7 1 (some ⟨b,o,none⟩) 10 c (Zam [a0,a1,a2,a3,a4,a5,a6,a7,a8,a9])) (((HR4.out.step hb5).step hb6).keep qo (λ_ x hx hl=>hbk x (by simp [gOf] at hx;omega)))
 have HS6:=qh (RS w7 1 (some ⟨b,o+6,none⟩) 4 (c-6) (Zam [a6,a7,a8,a9])) (by have:=HR7.out.part rfl 6 10 (c-6) qo qo qo (by unfold maxLen;omega);exact this)
 clear hst hs hbk e1 e2 e3 hb5 hb6 HXd HXe HX0d HR4 x25 f25
 go_wp2_with (first|(refine Zaf rfl 43 (.tmp 35) (.tmp 33) rfl rfl rfl HST7.out ?_)|fail)
 refine (HJ6.out _ _ _ HS6.out).mono ?_
 rintro e w8 ⟨rfl,hb8⟩
 have hz8:=hb8.size
 have HB8:=qh (Below w.heap.size w w8) (Below.step hb8 HB7.out HB7.out.size)
 go_wp2_with fail
 refine (HPP6.out _ HB8.out).mono ?_
 rintro e w9 ⟨rfl,hb9⟩
 have hz9:=hb9.size
 obtain ⟨wa,hst,hs,hbk,hs2,e1,e2,e3⟩:=Zay (P:=Tryz.prog) (T:=43) (zs:=c12 vq) (k:=12) (Own.step hb9 (Own.step hb8 HXf.out)) (by rw [Zb5];kernel_rfl) (by rw [Zb5,Zdh];decide) qr
 have HSTa:=hdQ hst
 have HXg:=qh (Own wa w1.heap.size 45 (c26 vp vq vs vt)) (by have:=hs;rw [Zb5] at this;exact this)
 have HX0g:=qh (Own wa w.heap.size 45 z26) ((hbk _ qo).trans (Own.step hb9 (Own.step hb8 HX0f.out)))
 have HBa:=qh (Below w.heap.size w wa) (Below.trans (Below.step hb9 HB8.out HB8.out.size) ⟨e1,e2,e3,qo,λb h=>hbk b qo⟩)
 have HLD:=qh ((Instr.loadAt 45 (.pointer (some ⟨w1.heap.size,0,none⟩))).run Tryz.prog wa=.ok (.agg ⟨c26 vp vq vs vt⟩) wa) (Zal (P:=Tryz.prog) Tryz.underlying45 rfl (by rw [Zdh];kernel_rfl) (λj v hv=>by rw [Nat.zero_add,HXg.out.cell];exact hv))
 clear hst hs hbk e1 e2 e3 hb8 hb9
 obtain ⟨wb,hst,hs,hbk,hs2,e1,e2,e3⟩:=Zay (P:=Tryz.prog) (T:=45) (zs:=c26 vp vq vs vt) (k:=0) HX0g.out (by rw [Zdh];exact Zek) (by rw [Zdh];decide) qr
 have HSTb:=hdQ hst
 have HR:=qh (wb.heap[w.heap.size]? = some (.cells ⟨c26 vp vq vs vt⟩ 45 (0,0))) (by have:=hs;unfold Own at this;rw [this];rw [Zdh];simp [z26])
 have HBb:=qh (Below w.heap.size w wb) (Below.trans HBa.out ⟨e1,e2,e3,qo,λb h=>hbk b qo⟩)
 clear hst hs hbk e1 e2 e3
 go_wp2_with (first|(refine Zaf rfl 43 (.tmp 43) (.tmp 41) rfl rfl rfl HSTa.out ?_)|(refine Zaj rfl 45 (.tmp 4) rfl rfl HLD.out ?_)|(refine Zaf rfl 45 (.tmp 2) (.tmp 44) rfl rfl rfl HSTb.out ?_)|fail)
 exact bodyPost_ret (v:=.agg ⟨c26 vp vq vs vt⟩) (results_cell_row Tryz.results74 _ _ w.heap.size _ _ (0,0) _ rfl HR.out Tryz.underlying45 rfl kr) rfl ⟨rfl,HBb.out⟩
theorem S_l20Surface_yes {A:Option Addr} {c:Nat} (a a0 a1 a2 a3 a4 a5 a6 a7 a8 a9:List UInt8) (w:World) (hr:RS w 1 A 11 c (Zam [a,a0,a1,a2,a3,a4,a5,a6,a7,a8,a9])) (hjl:(join [a0,a1,a2,a3,a4,a5,a6,a7,a8,a9] [32]).length<=1048576) :
  Calls Tryz.prog 23 #[.slice A 11 c] w λe w'=>e=.returned (.agg ⟨Zfq (parSurf [a0,a1,a2,a3,a4,a5,a6,a7,a8,a9])⟩)/\Below w.heap.size w w':=by
 obtain ⟨jl0,jl1,jl2,jl6⟩:=jlens hjl
 have HPa0:=qh (∀ wx,CB_ Tryz.prog 20 #[str a0] wx (.tuple #[.int .i64 ((parseI a0).getD 0),.bool (parseI a0).isSome])) (λwx  => Zeh a0 wx (Nat.le_trans jl0 qd) )
 have HPa1:=qh (∀ wx,CB_ Tryz.prog 20 #[str a1] wx (.tuple #[.int .i64 ((parseI a1).getD 0),.bool (parseI a1).isSome])) (λwx  => Zeh a1 wx (Nat.le_trans jl1 qd) )
 have HJ2:=qh (∀ (wx:World) (A:Option Addr) (c:Nat),RS wx 1 A 4 c (Zam [a2,a3,a4,a5])->CB_ Tryz.prog 22 #[.slice A 4 c,.string ⟨#[32]⟩] wx (str (join [a2,a3,a4,a5] [32]))) (λwx A c h=>(S_Join (sep:=[32]) wx h (Nat.le_trans jl2 qd) qd).mono (λ_ _ q=>⟨q.1,q.2 ▸ Below.refl _ _⟩))
 have HPP2:=qh (∀ wx,CB_ Tryz.prog 63 #[str (join [a2,a3,a4,a5] [32])] wx (.tuple #[.agg ⟨c12 ((parPt (join [a2,a3,a4,a5] [32])).getD zPt)⟩,.bool (parPt (join [a2,a3,a4,a5] [32])).isSome])) (λwx  => S_ParsePatch _ wx jl2 )
 have HJ6:=qh (∀ (wx:World) (A:Option Addr) (c:Nat),RS wx 1 A 4 c (Zam [a6,a7,a8,a9])->CB_ Tryz.prog 22 #[.slice A 4 c,.string ⟨#[32]⟩] wx (str (join [a6,a7,a8,a9] [32]))) (λwx A c h=>(S_Join (sep:=[32]) wx h (Nat.le_trans jl6 qd) qd).mono (λ_ _ q=>⟨q.1,q.2 ▸ Below.refl _ _⟩))
 have HPP6:=qh (∀ wx,CB_ Tryz.prog 63 #[str (join [a6,a7,a8,a9] [32])] wx (.tuple #[.agg ⟨c12 ((parPt (join [a6,a7,a8,a9] [32])).getD zPt)⟩,.bool (parPt (join [a6,a7,a8,a9] [32])).isSome])) (λwx  => S_ParsePatch _ wx jl6 )
 rw [show parSurf [a0,a1,a2,a3,a4,a5,a6,a7,a8,a9]=((parPt (join [a2,a3,a4,a5] [32])).getD zPt,(parPt (join [a6,a7,a8,a9] [32])).getD zPt,(parseI a0).getD 0,(parseI a1).getD 0) from rfl]
 dsimp only [Zfq]
 generalize parPt (join [a2,a3,a4,a5] [32])=op at *
 generalize parPt (join [a6,a7,a8,a9] [32])=oq at *
 generalize parseI a0=os at *
 generalize parseI a1=ot at *
 generalize op.getD zPt=vp at *;generalize op.isSome=bp at *;generalize oq.getD zPt=vq at *;generalize oq.isSome=bq at *;generalize os.getD 0=vs at *;generalize os.isSome=bs at *;generalize ot.getD 0=vt at *;generalize ot.isSome=bt at *
 generalize join [a2,a3,a4,a5] [32]=j2 at *
 generalize join [a6,a7,a8,a9] [32]=j6 at *
 clear jl0 jl1 jl2 jl6 hjl
 have hal:∀ wx:World,(Instr.alloc 45 true (.tuple #[])).run Tryz.prog wx=.ok (.pointer (some ⟨wx.heap.size,0,none⟩)) (wx.alloc (.cells ⟨z26⟩ 45)):=λwx=>by kernel_rfl
 obtain ⟨hnc,hcm,hop⟩:=hr.open_
 obtain ⟨b,o,rfl,hbl,hcell⟩:=hop qo
 unfold maxLen at hcm
 obtain ⟨X,hX⟩:∃ X,X=w.heap.size+1:=⟨_,rfl⟩
 obtain ⟨WW,hWW⟩:∃ WW,WW=((w.alloc (.cells ⟨z26⟩ 45)).alloc (.cells ⟨z26⟩ 45)):=⟨_,rfl⟩
 have HA2:=qh ((Instr.alloc 45 true (.tuple #[])).run Tryz.prog (w.alloc (.cells ⟨z26⟩ 45))=.ok (.pointer (some ⟨X,0,none⟩)) WW) (by rw [hX,hWW];have:=hal (w.alloc (.cells ⟨z26⟩ 45));simpa using this)
 have HX0:=qh (Own WW w.heap.size 45 z26) (by rw [hWW];exact Own.alloc (Own.new w _ _) _)
 have HX:=qh (Own WW X 45 z26) (by rw [hX,hWW];exact Own.at_new (cs:=⟨z26⟩) qs)
 have HB1:=qh (Below w.heap.size w WW) (by rw [hWW];exact ((Below.refl _ _).alloc qo _).alloc omm _)
 have HR1:=qh (RS WW 1 (some ⟨b,o,none⟩) 11 c (Zam [a,a0,a1,a2,a3,a4,a5,a6,a7,a8,a9])) (by rw [hWW];exact (hr.alloc _).alloc _)
 have hlx:X<WW.heap.size:=by rw [hX,hWW];simp
 have hwx:w.heap.size<X:=qo
 clear hX hWW
 obtain ⟨w2,hst,hs,hbk,hs2,e1,e2,e3⟩:=Zay (P:=Tryz.prog) (T:=45) (zs:=z26) (k:=0) HX.out Zek qd qr
 have HST:=hdQ hst
 have HXa:=qh (Own w2 X 45 z26) hs
 have HX0a:=qh (Own w2 w.heap.size 45 z26) ((hbk _ omm).trans HX0.out)
 have HB2:=qh (Below w.heap.size w w2) (Below.trans HB1.out ⟨e1,e2,e3,qo,λb h=>hbk b omm⟩)
 have HR2:=qh (RS w2 1 (some ⟨b,o,none⟩) 11 c (Zam [a,a0,a1,a2,a3,a4,a5,a6,a7,a8,a9])) (HR1.out.keep qo (λ_ x hx hl=>hbk x (by simp [gOf] at hx;omega)))
 have hz2:w2.heap.size=WW.heap.size:=hs2
 (try simp at hz2)
 have q0:w2.cell? ⟨b,o+1,none⟩=some (str a0):=by
  have:=HR2.out.open_.2.2 qo
  obtain ⟨b',o',e,_,h⟩:=this
  obtain ⟨rfl,rfl⟩:b'=b/\o'=o:=by injection e with e;injection e with e1 e2;exact ⟨e1.symm,e2.symm⟩
  exact h 1 qo
 clear hst hs hbk hs2 e1 e2 e3 HX HX0 HR1 HB1 hr hop hcell
 go_enter Tryz.func23,Tryz.ntmps23
 go_wp2_with (first|(refine Zao rfl 45 rfl HA2.out ?_)|(refine Zao rfl 45 rfl (hal _) ?_)|(refine Zaf rfl 45 (.tmp 3) (.tmp 4) rfl rfl rfl HST.out ?_)|fail)
 refine (HPa0.out _).mono ?_
 rintro e w3 ⟨rfl,hb3⟩
 have hz3:=hb3.size
 have HXb:=qh (Own w3 X 45 z26) (Own.step hb3 HXa.out)
 have HX0b:=qh (Own (w3.setCell ⟨X,24,none⟩ (.int .i64 vs)) w.heap.size 45 z26) ((Own.step hb3 HX0a.out).far (p:=⟨X,24,none⟩) (by show w.heap.size≠X;omega) _)
 have x24:w3.cell? ⟨X,24,none⟩=some (.int .i64 0):=HXb.out.cell 24
 have f24:=HXb.out.frozen 24
 have l24:=HXb.out.lt
 have HXc:=qh (Own (w3.setCell ⟨X,24,none⟩ (.int .i64 vs)) X 45 (c26 zPt zPt vs 0)) (HXb.out.set_ 24 (.int .i64 vs))
 have HR3:=qh (RS (w3.setCell ⟨X,24,none⟩ (.int .i64 vs)) 1 (some ⟨b,o,none⟩) 11 c (Zam [a,a0,a1,a2,a3,a4,a5,a6,a7,a8,a9])) ((HR2.out.step hb3).setCell (p:=⟨X,24,none⟩) (by rintro ad ⟨⟩;show b≠X;omega) _)
 have HB3:=qh (Below w.heap.size w (w3.setCell ⟨X,24,none⟩ (.int .i64 vs))) ((Below.step hb3 HB2.out HB2.out.size).setCell (p:=⟨X,24,none⟩) (by show w.heap.size<=X;omega) _)
 have q1:(w3.setCell ⟨X,24,none⟩ (.int .i64 vs)).cell? ⟨b,o+2,none⟩=some (str a1):=by
  have:=HR3.out.open_.2.2 qo
  obtain ⟨b',o',e,_,h⟩:=this
  obtain ⟨rfl,rfl⟩:b'=b/\o'=o:=by injection e with e;injection e with e1 e2;exact ⟨e1.symm,e2.symm⟩
  exact h 2 qo
 have nbx:¬ b=X:=qo
 clear hb3 HXa HX0a HR2
 go_wp2_with fail
 refine (HPa1.out _).mono ?_
 rintro e w4 ⟨rfl,hb4⟩
 have hz4:=hb4.size
 (try simp at hz4)
 have HXd:=qh (Own w4 X 45 (c26 zPt zPt vs 0)) (Own.step hb4 HXc.out)
 have HX0d:=qh (Own (w4.setCell ⟨X,25,none⟩ (.int .i64 vt)) w.heap.size 45 z26) ((Own.step hb4 HX0b.out).far (p:=⟨X,25,none⟩) (by show w.heap.size≠X;omega) _)
 have x25:w4.cell? ⟨X,25,none⟩=some (.int .i64 0):=HXd.out.cell 25
 have f25:=HXd.out.frozen 25
 have l25:=HXd.out.lt
 have HXe:=qh (Own (w4.setCell ⟨X,25,none⟩ (.int .i64 vt)) X 45 (c26 zPt zPt vs vt)) (HXd.out.set_ 25 (.int .i64 vt))
 have HR4:=qh (RS (w4.setCell ⟨X,25,none⟩ (.int .i64 vt)) 1 (some ⟨b,o,none⟩) 11 c (Zam [a,a0,a1,a2,a3,a4,a5,a6,a7,a8,a9])) ((HR3.out.step hb4).setCell (p:=⟨X,25,none⟩) (by rintro ad ⟨⟩;show b≠X;omega) _)
 have HB4:=qh (Below w.heap.size w (w4.setCell ⟨X,25,none⟩ (.int .i64 vt))) ((Below.step hb4 HB3.out HB3.out.size).setCell (p:=⟨X,25,none⟩) (by show w.heap.size<=X;omega) _)
 have HS2:=qh (RS (w4.setCell ⟨X,25,none⟩ (.int .i64 vt)) 1 (some ⟨b,o+3,none⟩) 4 (c-3) (Zam [a2,a3,a4,a5])) (by have:=HR4.out.part rfl 3 7 (c-3) qo qo qo (by unfold maxLen;omega);exact this)
 clear hb4 HXb HXc HX0b HR3 x24 f24 q0 q1
 go_wp2_with fail
 refine (HJ2.out _ _ _ HS2.out).mono ?_
 rintro e w5 ⟨rfl,hb5⟩
 have hz5:=hb5.size
 (try simp at hz5)
 have HB5:=qh (Below w.heap.size w w5) (Below.step hb5 HB4.out HB4.out.size)
 go_wp2_with fail
 refine (HPP2.out _).mono ?_
 rintro e w6 ⟨rfl,hb6⟩
 have hz6:=hb6.size
 obtain ⟨w7,hst,hs,hbk,hs2,e1,e2,e3⟩:=Zay (P:=Tryz.prog) (T:=43) (zs:=c12 vp) (k:=0) (Own.step hb6 (Own.step hb5 HXe.out)) (by rw [Zb5];kernel_rfl) (by rw [Zb5,Zdh];decide) qr
 have HST7:=hdQ hst
 have HXf:=qh (Own w7 X 45 (c26 vp zPt vs vt)) (by have:=hs;rw [Zb5] at this;exact this)
 have HX0f:=qh (Own w7 w.heap.size 45 z26) ((hbk _ qo).trans (Own.step hb6 (Own.step hb5 HX0d.out)))
 have HB7:=qh (Below w.heap.size w w7) (Below.trans (Below.step hb6 HB5.out HB5.out.size) ⟨e1,e2,e3,qo,λb h=>hbk b qo⟩)
 have HR7:=qh (RS w7 1 (some ⟨b,o,none⟩) 11 c (Zam [a,a0,a1,a2,a3,a4,a5,a6,a7,a8,a9])) (((HR4.out.step hb5).step hb6).keep qo (λ_ x hx hl=>hbk x (by simp [gOf] at hx;omega)))
 have HS6:=qh (RS w7 1 (some ⟨b,o+7,none⟩) 4 (c-7) (Zam [a6,a7,a8,a9])) (by have:=HR7.out.part rfl 7 11 (c-7) qo qo qo (by unfold maxLen;omega);exact this)
 clear hst hs hbk e1 e2 e3 hb5 hb6 HXd HXe HX0d HR4 x25 f25
 go_wp2_with (first|(refine Zaf rfl 43 (.tmp 32) (.tmp 30) rfl rfl rfl HST7.out ?_)|fail)
 refine (HJ6.out _ _ _ HS6.out).mono ?_
 rintro e w8 ⟨rfl,hb8⟩
 have hz8:=hb8.size
 have HB8:=qh (Below w.heap.size w w8) (Below.step hb8 HB7.out HB7.out.size)
 go_wp2_with fail
 refine (HPP6.out _).mono ?_
 rintro e w9 ⟨rfl,hb9⟩
 have hz9:=hb9.size
 obtain ⟨wa,hst,hs,hbk,hs2,e1,e2,e3⟩:=Zay (P:=Tryz.prog) (T:=43) (zs:=c12 vq) (k:=12) (Own.step hb9 (Own.step hb8 HXf.out)) (by rw [Zb5];kernel_rfl) (by rw [Zb5,Zdh];decide) qr
 have HSTa:=hdQ hst
 have HXg:=qh (Own wa X 45 (c26 vp vq vs vt)) (by have:=hs;rw [Zb5] at this;exact this)
 have HX0g:=qh (Own wa w.heap.size 45 z26) ((hbk _ qo).trans (Own.step hb9 (Own.step hb8 HX0f.out)))
 have HBa:=qh (Below w.heap.size w wa) (Below.trans (Below.step hb9 HB8.out HB8.out.size) ⟨e1,e2,e3,qo,λb h=>hbk b qo⟩)
 have HLD:=qh ((Instr.loadAt 45 (.pointer (some ⟨X,0,none⟩))).run Tryz.prog wa=.ok (.agg ⟨c26 vp vq vs vt⟩) wa) (Zal (P:=Tryz.prog) Tryz.underlying45 rfl (by rw [Zdh];kernel_rfl) (λj v hv=>by rw [Nat.zero_add,HXg.out.cell];exact hv))
 clear hst hs hbk e1 e2 e3 hb8 hb9
 obtain ⟨wb,hst,hs,hbk,hs2,e1,e2,e3⟩:=Zay (P:=Tryz.prog) (T:=45) (zs:=c26 vp vq vs vt) (k:=0) HX0g.out (by rw [Zdh];exact Zek) (by rw [Zdh];decide) qr
 have HSTb:=hdQ hst
 have HR:=qh (wb.heap[w.heap.size]? = some (.cells ⟨c26 vp vq vs vt⟩ 45 (0,0))) (by have:=hs;unfold Own at this;rw [this];rw [Zdh];simp [z26])
 have HBb:=qh (Below w.heap.size w wb) (Below.trans HBa.out ⟨e1,e2,e3,qo,λb h=>hbk b qo⟩)
 clear hst hs hbk e1 e2 e3
 go_wp2_with (first|(refine Zaf rfl 43 (.tmp 40) (.tmp 38) rfl rfl rfl HSTa.out ?_)|(refine Zaj rfl 45 (.tmp 3) rfl rfl HLD.out ?_)|(refine Zaf rfl 45 (.tmp 2) (.tmp 41) rfl rfl rfl HSTb.out ?_)|fail)
 exact bodyPost_ret (v:=.agg ⟨c26 vp vq vs vt⟩) (results_cell_row Tryz.results23 _ _ w.heap.size _ _ (0,0) _ rfl HR.out Tryz.underlying45 rfl kr) rfl ⟨rfl,HBb.out⟩
theorem S_l20Surface_no {A:Option Addr} {n c:Nat} (w:World) (hn:n≠11) :
  Calls Tryz.prog 23 #[.slice A n c] w λe w'=>e=.returned (.agg ⟨z26⟩)/\Below w.heap.size w w':=by
 have hne:((n:Int) != 11)=true:=by simp;omega
 clear hn
 have hal:∀ wx:World,(Instr.alloc 45 true (.tuple #[])).run Tryz.prog wx=.ok (.pointer (some ⟨wx.heap.size,0,none⟩)) (wx.alloc (.cells ⟨z26⟩ 45)):=λwx=>by kernel_rfl
 obtain ⟨X,hX⟩:∃ X,X=w.heap.size+1:=⟨_,rfl⟩
 obtain ⟨WW,hWW⟩:∃ WW,WW=((w.alloc (.cells ⟨z26⟩ 45)).alloc (.cells ⟨z26⟩ 45)):=⟨_,rfl⟩
 have HA2:=qh ((Instr.alloc 45 true (.tuple #[])).run Tryz.prog (w.alloc (.cells ⟨z26⟩ 45))=.ok (.pointer (some ⟨X,0,none⟩)) WW) (by rw [hX,hWW];have:=hal (w.alloc (.cells ⟨z26⟩ 45));simpa using this)
 have HX0:=qh (Own WW w.heap.size 45 z26) (by rw [hWW];exact Own.alloc (Own.new w _ _) _)
 have HX:=qh (Own WW X 45 z26) (by rw [hX,hWW];exact Own.at_new (cs:=⟨z26⟩) qs)
 have HB1:=qh (Below w.heap.size w WW) (by rw [hWW];exact ((Below.refl _ _).alloc qo _).alloc omm _)
 have hlx:X<WW.heap.size:=by rw [hX,hWW];simp
 have hwx:w.heap.size<X:=qo
 clear hX hWW
 obtain ⟨w2,hst,hs,hbk,hs2,e1,e2,e3⟩:=Zay (P:=Tryz.prog) (T:=45) (zs:=z26) (k:=0) HX.out Zek qd qr
 have HST:=hdQ hst
 have HXa:=qh (Own w2 X 45 z26) hs
 have HX0a:=qh (Own w2 w.heap.size 45 z26) ((hbk _ qo).trans HX0.out)
 have HB2:=qh (Below w.heap.size w w2) (Below.trans HB1.out ⟨e1,e2,e3,qo,λb h=>hbk b qo⟩)
 have HLD:=qh ((Instr.loadAt 45 (.pointer (some ⟨X,0,none⟩))).run Tryz.prog w2=.ok (.agg ⟨z26⟩) w2) (Zal (P:=Tryz.prog) Tryz.underlying45 rfl kr (λj v hv=>by rw [Nat.zero_add,HXa.out.cell];exact hv))
 clear hst hs hbk hs2 e1 e2 e3
 obtain ⟨w3,hst,hs,hbk,hs2,e1,e2,e3⟩:=Zay (P:=Tryz.prog) (T:=45) (zs:=z26) (k:=0) HX0a.out Zek qd qr
 have HST3:=hdQ hst
 have HR:=qh (w3.heap[w.heap.size]? = some (.cells ⟨z26⟩ 45 (0,0))) hs
 have HB3:=qh (Below w.heap.size w w3) (Below.trans HB2.out ⟨e1,e2,e3,qo,λb h=>hbk b qo⟩)
 clear hst hs hbk hs2 e1 e2 e3
 go_enter Tryz.func23,Tryz.ntmps23
 go_wp2_with (first|(refine Zao rfl 45 rfl HA2.out ?_)|(refine Zao rfl 45 rfl (hal _) ?_)|(refine Zaf rfl 45 (.tmp 3) (.tmp 4) rfl rfl rfl HST.out ?_)|(refine Zaj rfl 45 (.tmp 3) rfl rfl HLD.out ?_)|(refine Zaf rfl 45 (.tmp 2) (.tmp 8) rfl rfl rfl HST3.out ?_)|fail)
 exact bodyPost_ret (v:=.agg ⟨z26⟩) (results_cell_row Tryz.results23 _ _ w.heap.size _ _ (0,0) _ rfl HR.out Tryz.underlying45 rfl kr) rfl ⟨rfl,HB3.out⟩
theorem S_l20Surface {A:Option Addr} {c:Nat} (a:List UInt8) (ws:List (List UInt8)) (w:World) (hr:RS w 1 A (ws.length+1) c (Zam (a::ws))) (hjl:(join ws [32]).length<=1048576) :
  Calls Tryz.prog 23 #[.slice A (ws.length+1) c] w λe w'=>e=.returned (.agg ⟨Zfq (parSurf ws)⟩)/\Below w.heap.size w w':=by
 by_cases h:ws.length=10
 ·obtain ⟨a0,a1,a2,a3,a4,a5,a6,a7,a8,a9,rfl⟩:=ten_words h
  exact S_l20Surface_yes a a0 a1 a2 a3 a4 a5 a6 a7 a8 a9 w hr hjl
 ·rw [parSurf_no h]
  exact S_l20Surface_no w qo
theorem I_parseSurface (l:List UInt8) (w:World) (hlim:l.length<=1048576) (he:Env w) :
  Calls Tryz.prog 74 #[str l] w λe w'=>e=.returned (.agg ⟨Zfq (parSurf (splitB 32 l))⟩)/\Below w.heap.size w w':=by
 by_cases h:(splitB 32 l).length=10
 ·exact I_parseSurface_yes l w hlim he h
 ·exact I_parseSurface_no l w hlim h
theorem cam_num {a b c d:Int} {z:Int} {f g:Int} (h:Zaz a b c d f g=true) (hz:z=0∨z=1):∀ u∈[a,b,c,d,z,f,g],Zcg u:=by
 obtain ⟨h1,h2,h3,h4,h5,h6⟩:=validCam_true h
 intro u hu
 simp only [List.mem_cons,List.not_mem_nil,or_false] at hu
 unfold Zcg
 rcases hu with rfl|rfl|rfl|rfl|rfl|rfl|rfl<;>omega
theorem tex_num {log:Int} {l:List Int} (h:Zak log l=true):∀ u∈l,Zcg u:=by
 have h4:=(Zd8 h).2.2.2
 unfold allIn at h4
 rw [List.all_eq_true] at h4
 intro u hu
 have:=Zbk (h4 u hu)
 unfold Zcg;omega
theorem S_FormatCamera_true (a b c d f g:Int) (w:World) (hv:Zaz a b c d f g=true) :
  Calls Tryz.prog 56 #[Zbl a b c d true f g] w λe w'=>e=.returned (str (camT a b c d true f g))/\Below w.heap.size w w':=by
 have HV:=qh (∀ wx,CB_ Tryz.prog 116 #[Zbl a b c d true f g] wx (.bool true)) (λwx=>by have:=Zdj (a:=a) (b:=b) (c:=c) (d:=d) (e:=true) (f:=f) (g:=g) wx;rw [hv] at this;exact this)
 have HF:=qh (∀ (wx:World) (A:Option Addr),RS wx 1 A 7 7 (ints [a,b,c,d,1,f,g])->Below w.heap.size w wx->CB_ Tryz.prog 117 #[.slice A 7 7] wx (str (camT a b c d true f g))) (λwx A h hbx=>Ze9 (l:=[a,b,c,d,1,f,g]) wx h (cam_num hv qs) qs qs)
 clear hv
 go_enter Tryz.func56,Tryz.ntmps56
 go_wp2_with (first|(go_at_call 116;refine (HV.out _).mono ?_;rintro e w1 ⟨rfl,hb1⟩;have hz1:=hb1.size;(try simp at hz1);have c0:=λo=>hb1.cell (p:=⟨w.heap.size,o,none⟩) omm;have HB1:=bh w hb1;clear hb1)|fail)
 refine (HF.out _ _ ?_ bll).mono ?_
 ·exact Own.rs (n:=7) (size:=1) (by first|exact Own.new _ _ #[_,_,_,_,_,_,_]|exact Own.at_new (cs := #[_,_,_,_,_,_,_]) rfl) rfl qd
 rintro e w' ⟨rfl,hb⟩
 have hz:=hb.size
 (try simp at hz)
 go_wp2_with fail
 go_ret
 exact ⟨rfl,bll⟩
theorem S_FormatCamera_false (a b c d f g:Int) (w:World) (hv:Zaz a b c d f g=true) :
  Calls Tryz.prog 56 #[Zbl a b c d false f g] w λe w'=>e=.returned (str (camT a b c d false f g))/\Below w.heap.size w w':=by
 have HV:=qh (∀ wx,CB_ Tryz.prog 116 #[Zbl a b c d false f g] wx (.bool true)) (λwx=>by have:=Zdj (a:=a) (b:=b) (c:=c) (d:=d) (e:=false) (f:=f) (g:=g) wx;rw [hv] at this;exact this)
 have HF:=qh (∀ (wx:World) (A:Option Addr),RS wx 1 A 7 7 (ints [a,b,c,d,0,f,g])->Below w.heap.size w wx->CB_ Tryz.prog 117 #[.slice A 7 7] wx (str (camT a b c d false f g))) (λwx A h hbx=>Ze9 (l:=[a,b,c,d,0,f,g]) wx h (cam_num hv qs) qs qs)
 clear hv
 go_enter Tryz.func56,Tryz.ntmps56
 go_wp2_with (first|(go_at_call 116;refine (HV.out _).mono ?_;rintro e w1 ⟨rfl,hb1⟩;have hz1:=hb1.size;(try simp at hz1);have c0:=λo=>hb1.cell (p:=⟨w.heap.size,o,none⟩) omm;have HB1:=bh w hb1;clear hb1)|fail)
 refine (HF.out _ _ ?_ bll).mono ?_
 ·exact Own.rs (n:=7) (size:=1) (by first|exact Own.new _ _ #[_,_,_,_,_,_,_]|exact Own.at_new (cs := #[_,_,_,_,_,_,_]) rfl) rfl qd
 rintro e w' ⟨rfl,hb⟩
 have hz:=hb.size
 (try simp at hz)
 go_wp2_with fail
 go_ret
 exact ⟨rfl,bll⟩
theorem S_FormatCamera (a b c d:Int) (e:Bool) (f g:Int) (w:World) (hv:Zaz a b c d f g=true) :
  Calls Tryz.prog 56 #[Zbl a b c d e f g] w λe' w'=>e'=.returned (str (camT a b c d e f g))/\Below w.heap.size w w':=by
 cases e
 ·exact S_FormatCamera_false a b c d f g w hv
 ·exact S_FormatCamera_true a b c d f g w hv
theorem S_FormatTexture {log:Int} {A:Option Addr} {c:Nat} {l:List Int} (w:World) (h:RS w 1 A l.length c (ints l)) :
  Calls Tryz.prog 57 #[Zcc log (.slice A l.length c)] w λe w'=>e=.returned (str (if Zak log l then texT log l else []))/\Below w.heap.size w w':=by
 have HV:=qh (∀ b,Zak log l=b->∀ wx,Below w.heap.size w wx->CB_ Tryz.prog 118 #[Zcc log (.slice A l.length c)] wx (.bool b)) (λb hb wx hbx=>by subst hb;exact S_IsValidTexture wx (RS.step hbx h))
 cases hv:Zak log l with
 | false =>
  clear h
  go_enter Tryz.func57,Tryz.ntmps57
  go_wp2_with (first|(go_at_call 118;refine (HV.out _ hv _ bll).mono ?_;rintro e w1 ⟨rfl,hb1⟩;have HB1:=bh w hb1;clear hb1)|fail)
  go_ret
  exact ⟨rfl,bll⟩
 | true =>
  have HN:=qh (∀ wx:World,Below w.heap.size w wx->CB_ Tryz.prog 58 #[.int .i64 log] wx (str (fmtI log))) (λwx hbx=>Zcj log wx)
  have HF:=qh (∀ wx:World,Below w.heap.size w wx->CB_ Tryz.prog 117 #[.slice A l.length c] wx (str (fmtL l))) (λwx hbx=>Ze9 (l:=l) wx (RS.step hbx h) (tex_num hv) (by have:=Zd8 hv;omega) (by have:=Zd8 hv;omega))
  have HL1:=hdQ (Zb0 log)
  have HL2:=hdQ (Zf9 l)
  have HL3:=hdQ (Zd8 hv).2.2.1
  have sl1:¬ 9223372036854775807<(fmtI log).length+1:=by have:=HL1.out;omega
  have sl2:¬ 9223372036854775807<(fmtI log).length+1+(fmtL l).length:=by have:=HL1.out;have:=HL2.out;have:=HL3.out;omega
  have HT:=qh (texT log l=fmtI log++[58]++fmtL l) rfl
  clear h
  generalize fmtI log=X at *
  generalize fmtL l=Y at *
  go_enter Tryz.func57,Tryz.ntmps57
  go_wp2_with (first|(go_at_call 118;refine (HV.out _ hv _ bll).mono ?_;rintro e w1 ⟨rfl,hb1⟩;have hz1:=hb1.size;(try simp at hz1);have c0:=λo=>hb1.cell (p:=⟨w.heap.size,o,none⟩) omm;have HB1:=bh w hb1;clear hb1)|fail)
  go_region_held3 (λw'=>w'.cell? ⟨w.heap.size,0,none⟩=some (.int .i64 log)/\w'.cell? ⟨w.heap.size,1,none⟩=some (.slice A l.length c))
   (first|go_keep|((try dsimp only);refine ⟨?_, ?_⟩<;>(go_simp;done)))
   (first|(go_at_call 58;(with_reducible refine (HN.out _ bll).mono ?_);rintro e wA ⟨rfl,hbA⟩;have hzA:=hbA.size;(try simp at hzA);(refine Zai hbA (w.heap.size) ?_ ?_;(first|omega|(simp<;>omega));intro n0 nf0 nz0))|(go_at_call 117;(with_reducible refine (HF.out _ bll).mono ?_);rintro e wB ⟨rfl,hbB⟩;have hzB:=hbB.size;(try simp at hzB);(refine Zai hbB (w.heap.size) ?_ ?_;(first|omega|(simp<;>omega));intro m0 mf0 mz0))|fail)
  all_goals
   go_wp2_with fail
   go_ret
   refine ⟨?_,bll⟩
   first
    | (try rw [if_pos rfl]);rw [HT.out];show Ending.returned (Value.string ((({ data:=X.toArray }:ByteArray)++{ data:=[58].toArray })++{ data:=Y.toArray }))=_;rw [Zab,Zab]
    | fail
theorem I_FormatCamera_true (a b c d f g:Int) (w:World) (hv:Zaz a b c d f g=true) (ht:Tab w) :
  Calls Tryz.prog 40 #[Zbl a b c d true f g] w λe w'=>e=.returned (str (camT a b c d true f g))/\Below w.heap.size w w':=by
 have HV:=qh (∀ wx,CB_ Tryz.prog 75 #[Zbl a b c d true f g] wx (.bool true)) (λwx=>by have:=Zdn (a:=a) (b:=b) (c:=c) (d:=d) (e:=true) (f:=f) (g:=g) wx;rw [hv] at this;exact this)
 have HF:=qh (∀ (wx:World) (A:Option Addr),RS wx 1 A 7 7 (ints [a,b,c,d,1,f,g])->Below w.heap.size w wx->CB_ Tryz.prog 91 #[.slice A 7 7] wx (str (camT a b c d true f g))) (λwx A h hbx=>Zfc (l:=[a,b,c,d,1,f,g]) wx h (cam_num hv qs) qs qs (ht.step hbx))
 clear hv ht
 go_enter Tryz.func40,Tryz.ntmps40
 go_wp2_with (first|(go_at_call 75;refine (HV.out _).mono ?_;rintro e w1 ⟨rfl,hb1⟩;have hz1:=hb1.size;(try simp at hz1);have c0:=λo=>hb1.cell (p:=⟨w.heap.size,o,none⟩) omm;have HB1:=bh w hb1;clear hb1)|fail)
 refine (HF.out _ _ ?_ bll).mono ?_
 ·exact Own.rs (n:=7) (size:=1) (by first|exact Own.new _ _ #[_,_,_,_,_,_,_]|exact Own.at_new (cs := #[_,_,_,_,_,_,_]) rfl) rfl qd
 rintro e w' ⟨rfl,hb⟩
 have hz:=hb.size
 (try simp at hz)
 go_wp2_with fail
 go_ret
 exact ⟨rfl,bll⟩
theorem I_FormatCamera_false (a b c d f g:Int) (w:World) (hv:Zaz a b c d f g=true) (ht:Tab w) :
  Calls Tryz.prog 40 #[Zbl a b c d false f g] w λe w'=>e=.returned (str (camT a b c d false f g))/\Below w.heap.size w w':=by
 have HV:=qh (∀ wx,CB_ Tryz.prog 75 #[Zbl a b c d false f g] wx (.bool true)) (λwx=>by have:=Zdn (a:=a) (b:=b) (c:=c) (d:=d) (e:=false) (f:=f) (g:=g) wx;rw [hv] at this;exact this)
 have HF:=qh (∀ (wx:World) (A:Option Addr),RS wx 1 A 7 7 (ints [a,b,c,d,0,f,g])->Below w.heap.size w wx->CB_ Tryz.prog 91 #[.slice A 7 7] wx (str (camT a b c d false f g))) (λwx A h hbx=>Zfc (l:=[a,b,c,d,0,f,g]) wx h (cam_num hv qs) qs qs (ht.step hbx))
 clear hv ht
 go_enter Tryz.func40,Tryz.ntmps40
 go_wp2_with (first|(go_at_call 75;refine (HV.out _).mono ?_;rintro e w1 ⟨rfl,hb1⟩;have hz1:=hb1.size;(try simp at hz1);have c0:=λo=>hb1.cell (p:=⟨w.heap.size,o,none⟩) omm;have HB1:=bh w hb1;clear hb1)|fail)
 refine (HF.out _ _ ?_ bll).mono ?_
 ·exact Own.rs (n:=7) (size:=1) (by first|exact Own.new _ _ #[_,_,_,_,_,_,_]|exact Own.at_new (cs := #[_,_,_,_,_,_,_]) rfl) rfl qd
 rintro e w' ⟨rfl,hb⟩
 have hz:=hb.size
 (try simp at hz)
 go_wp2_with fail
 go_ret
 exact ⟨rfl,bll⟩
theorem I_FormatCamera (a b c d:Int) (e:Bool) (f g:Int) (w:World) (hv:Zaz a b c d f g=true) (ht:Tab w) :
  Calls Tryz.prog 40 #[Zbl a b c d e f g] w λe' w'=>e'=.returned (str (camT a b c d e f g))/\Below w.heap.size w w':=by
 cases e
 ·exact I_FormatCamera_false a b c d f g w hv ht
 ·exact I_FormatCamera_true a b c d f g w hv ht
theorem I_FormatTexture {log:Int} {A:Option Addr} {c:Nat} {l:List Int} (w:World) (h:RS w 1 A l.length c (ints l)) (ht:Tab w) :
  Calls Tryz.prog 41 #[Zcc log (.slice A l.length c)] w λe w'=>e=.returned (str (if Zak log l then texT log l else []))/\Below w.heap.size w w':=by
 have HV:=qh (∀ b,Zak log l=b->∀ wx,Below w.heap.size w wx->CB_ Tryz.prog 76 #[Zcc log (.slice A l.length c)] wx (.bool b)) (λb hb wx hbx=>by subst hb;exact Zcv wx (RS.step hbx h))
 cases hv:Zak log l with
 | false =>
  clear ht h
  go_enter Tryz.func41,Tryz.ntmps41
  go_wp2_with (first|(go_at_call 76;refine (HV.out _ hv _ bll).mono ?_;rintro e w1 ⟨rfl,hb1⟩;have HB1:=bh w hb1;clear hb1)|fail)
  go_ret
  exact ⟨rfl,bll⟩
 | true =>
  have HN:=qh (∀ wx:World,Below w.heap.size w wx->CB_ Tryz.prog 42 #[.int .i64 log] wx (str (fmtI log))) (λwx hbx=>Zdy log wx (ht.step hbx))
  have HF:=qh (∀ wx:World,Below w.heap.size w wx->CB_ Tryz.prog 91 #[.slice A l.length c] wx (str (fmtL l))) (λwx hbx=>Zfc (l:=l) wx (RS.step hbx h) (tex_num hv) (by have:=Zd8 hv;omega) (by have:=Zd8 hv;omega) (ht.step hbx))
  have HL1:=hdQ (Zb0 log)
  have HL2:=hdQ (Zf9 l)
  have HL3:=hdQ (Zd8 hv).2.2.1
  have sl1:¬ 9223372036854775807<(fmtI log).length+1:=by have:=HL1.out;omega
  have sl2:¬ 9223372036854775807<(fmtI log).length+1+(fmtL l).length:=by have:=HL1.out;have:=HL2.out;have:=HL3.out;omega
  have HT:=qh (texT log l=fmtI log++[58]++fmtL l) rfl
  clear h
  generalize fmtI log=X at *
  generalize fmtL l=Y at *
  go_enter Tryz.func41,Tryz.ntmps41
  go_wp2_with (first|(go_at_call 76;refine (HV.out _ hv _ bll).mono ?_;rintro e w1 ⟨rfl,hb1⟩;have hz1:=hb1.size;(try simp at hz1);have c0:=λo=>hb1.cell (p:=⟨w.heap.size,o,none⟩) omm;have HB1:=bh w hb1;clear hb1)|fail)
  go_region_held3 (λw'=>w'.cell? ⟨w.heap.size,0,none⟩=some (.int .i64 log)/\w'.cell? ⟨w.heap.size,1,none⟩=some (.slice A l.length c))
   (first|go_keep|((try dsimp only);refine ⟨?_, ?_⟩<;>(go_simp;done)))
   (first|(go_at_call 42;(with_reducible refine (HN.out _ bll).mono ?_);rintro e wA ⟨rfl,hbA⟩;have hzA:=hbA.size;(try simp at hzA);(refine Zai hbA (w.heap.size) ?_ ?_;(first|omega|(simp<;>omega));intro n0 nf0 nz0))|(go_at_call 91;(with_reducible refine (HF.out _ bll).mono ?_);rintro e wB ⟨rfl,hbB⟩;have hzB:=hbB.size;(try simp at hzB);(refine Zai hbB (w.heap.size) ?_ ?_;(first|omega|(simp<;>omega));intro m0 mf0 mz0))|fail)
  all_goals
   go_wp2_with fail
   go_ret
   refine ⟨?_,bll⟩
   first
    | (try rw [if_pos rfl]);rw [HT.out];show Ending.returned (Value.string ((({ data:=X.toArray }:ByteArray)++{ data:=[58].toArray })++{ data:=Y.toArray }))=_;rw [Zab,Zab]
    | fail
def zCam:ECam:=(0,0,0,0,false,0,0)
abbrev vC (v:ECam):Value:=Zbl v.1 v.2.1 v.2.2.1 v.2.2.2.1 v.2.2.2.2.1 v.2.2.2.2.2.1 v.2.2.2.2.2.2
def outC (r:Option ECam):Value:=.tuple #[vC (r.getD zCam),.bool r.isSome]
theorem parCam_none {l:List UInt8} (h:Za2 l=none):parCam l=none:=by unfold parCam;rw [h]
theorem parCam_len {l:List UInt8} {ls:List Int} (h:Za2 l=some ls) (hl:ls.length≠7):parCam l=none:=by
 unfold parCam;rw [h]
 match ls,hl with
 | [],_=>rfl
 | [_],_=>rfl
 | [_,_],_=>rfl
 | [_,_,_],_=>rfl
 | [_,_,_,_],_=>rfl
 | [_,_,_,_,_],_=>rfl
 | [_,_,_,_,_,_],_=>rfl
 | [a,b,c,d,e,f,g],hl=>exact absurd rfl hl
 | _::_::_::_::_::_::_::_::_,_=>rfl
theorem seven_of {ls:List Int} (h:ls.length=7):∃ a b c d e f g,ls=[a,b,c,d,e,f,g]:=by
 match ls,h with
 | [a,b,c,d,e,f,g],_=>exact ⟨a,b,c,d,e,f,g,rfl⟩
section
variable {l:List UInt8} {a b c d e f g:Int}
theorem parCam_of (h:Za2 l=some [a,b,c,d,e,f,g]) (hv:Zaz a b c d f g=true) (ht:camT a b c d (e==1) f g=l):parCam l=some (a,b,c,d,e==1,f,g):=by unfold parCam;rw [h];simp only [hv,ht,decide_true,Bool.and_self,if_true]
theorem parCam_bad (h:Za2 l=some [a,b,c,d,e,f,g]) (hv:Zaz a b c d f g=false):parCam l=none:=by unfold parCam;rw [h];simp [hv]
theorem parCam_other (h:Za2 l=some [a,b,c,d,e,f,g]) (ht:camT a b c d (e==1) f g≠l):parCam l=none:=by unfold parCam;rw [h];simp [ht]
end
theorem S_FormatCamera_bad (a b c d:Int) (e:Bool) (f g:Int) (w:World) (hv:Zaz a b c d f g=false) :
  Calls Tryz.prog 56 #[Zbl a b c d e f g] w λe' w'=>e'=.returned (str [])/\Below w.heap.size w w':=by
 have HV:=qh (∀ wx,CB_ Tryz.prog 116 #[Zbl a b c d e f g] wx (.bool false)) (λwx=>by have:=Zdj (a:=a) (b:=b) (c:=c) (d:=d) (e:=e) (f:=f) (g:=g) wx;rw [hv] at this;exact this)
 clear hv
 go_enter Tryz.func56,Tryz.ntmps56
 go_wp2_with (first|(go_at_call 116;refine (HV.out _).mono ?_;rintro e w1 ⟨rfl,hb1⟩;have HB1:=bh w hb1;clear hb1)|fail)
 go_ret
 exact ⟨rfl,bll⟩
theorem I_FormatCamera_bad (a b c d:Int) (e:Bool) (f g:Int) (w:World) (hv:Zaz a b c d f g=false) :
  Calls Tryz.prog 40 #[Zbl a b c d e f g] w λe' w'=>e'=.returned (str [])/\Below w.heap.size w w':=by
 have HV:=qh (∀ wx,CB_ Tryz.prog 75 #[Zbl a b c d e f g] wx (.bool false)) (λwx=>by have:=Zdn (a:=a) (b:=b) (c:=c) (d:=d) (e:=e) (f:=f) (g:=g) wx;rw [hv] at this;exact this)
 clear hv
 go_enter Tryz.func40,Tryz.ntmps40
 go_wp2_with (first|(go_at_call 75;refine (HV.out _).mono ?_;rintro e w1 ⟨rfl,hb1⟩;have HB1:=bh w hb1;clear hb1)|fail)
 go_ret
 exact ⟨rfl,bll⟩
theorem S_ParseCamera (l:List UInt8) (w:World) (hlim:l.length<=1048576) :
  Calls Tryz.prog 18 #[str l] w λe w'=>e=.returned (outC (parCam l))/\Below w.heap.size w w':=by
 have HPI:=qh (∀ wx,Below w.heap.size w wx->Calls Tryz.prog 55 #[str l] wx (OutPL (Za2 l) wx)) (λwx hb=>S_ParseInts l wx hlim)
 cases hp:Za2 l with
 | none =>
  have HPV:=hdQ (parCam_none hp)
  rw [hp] at HPI
  clear hp
  go_enter Tryz.func18,Tryz.ntmps18
  go_wp2_with fail
  refine (HPI.out _ bll).mono ?_
  rintro e w1 ⟨A,cc,rfl,ho,hge,hb1⟩
  (try simp only [Option.getD_some] at ho)
  have hz1:=hb1.size
  (try simp at hz1)
  have HX1:=qh (Own w1 w.heap.size 23 [.int .i64 0,.int .i64 0,.int .i64 0,.int .i64 0,.bool false,.int .i64 0,.int .i64 0]) (Own.step hb1 (Own.new w _ #[_,_,_,_,_,_,_]))
  have HB1:=bh w hb1
  have x0:=HX1.out.cell 0
  have x1:=HX1.out.cell 1
  have x2:=HX1.out.cell 2
  have x3:=HX1.out.cell 3
  have x4:=HX1.out.cell 4
  have x5:=HX1.out.cell 5
  have x6:=HX1.out.cell 6
  have xf:=HX1.out.frozen
  (try dsimp only [List.getElem?_cons_succ,List.getElem?_cons_zero] at x0 x1 x2 x3 x4 x5 x6)
  clear ho hge hb1
  go_wp2_with fail
  exact bodyPost_ret (v:=.tuple #[.agg #[.int .i64 0,.int .i64 0,.int .i64 0,.int .i64 0,.bool false,.int .i64 0,.int .i64 0],.bool false]) (by simp [results,Tryz.results18,go_sem, *]) rfl ⟨by first|(rw [HPV.out];done)|(rw [HPV.out];rfl),bll⟩
 | some ls =>
  rw [hp] at HPI
  by_cases h3:ls.length=7
  ·obtain ⟨a,b,c,d,e0,f,g,rfl⟩:=seven_of h3
   clear h3
   have hnl:l≠[]:=parse_ne hp
   have HFC:=qh (∃ T:List UInt8,(∀ wx,Below w.heap.size w wx->CB_ Tryz.prog 56 #[Zbl a b c d (e0==1) f g] wx (str T))/\((T=l/\parCam l=some (a,b,c,d,e0==1,f,g))∨(T≠l/\parCam l=none))) (by
    cases hv:Zaz a b c d f g with
    | true =>
     refine ⟨camT a b c d (e0==1) f g,λwx hb=>S_FormatCamera a b c d (e0==1) f g wx hv, ?_⟩
     by_cases ht:camT a b c d (e0==1) f g=l
     ·exact .inl ⟨ht,parCam_of hp hv ht⟩
     ·exact .inr ⟨ht,parCam_other hp ht⟩
    | false=>exact ⟨[],λwx hb=>S_FormatCamera_bad a b c d (e0==1) f g wx hv,.inr ⟨λe=>hnl e.symm,parCam_bad hp hv⟩⟩)
   obtain ⟨T,hfc,hT⟩:=HFC.out
   have HFV:=hdQ hfc
   clear HFC hfc hp hnl
   generalize hE:(e0==1)=E at *
   rcases hT with ⟨hT,hq⟩|⟨hT,hq⟩
   ·have HPV:=hdQ hq
    clear hq
    subst hT
    have hnl:(T != T)=false:=qs
    go_enter Tryz.func18,Tryz.ntmps18
    go_wp2_with fail
    refine (HPI.out _ bll).mono ?_
    rintro e w1 ⟨A,cc,rfl,ho,hge,hb1⟩
    (try simp only [Option.getD_some] at ho)
    obtain ⟨hlc,hcm,hop⟩:=ho.rs.open_
    unfold maxLen at hcm
    obtain ⟨bk,o,rfl,hbl,hcell⟩:=hop qs
    have c0:w1.cell? ⟨bk,o,none⟩=some (.int .i64 a):=by have:=hcell 0 qs;simpa using this
    have c1:w1.cell? ⟨bk,o+1,none⟩=some (.int .i64 b):=by have:=hcell 1 qs;simpa using this
    have c2:w1.cell? ⟨bk,o+2,none⟩=some (.int .i64 c):=by have:=hcell 2 qs;simpa using this
    have c3:w1.cell? ⟨bk,o+3,none⟩=some (.int .i64 d):=by have:=hcell 3 qs;simpa using this
    have c4:w1.cell? ⟨bk,o+4,none⟩=some (.int .i64 e0):=by have:=hcell 4 qs;simpa using this
    have c5:w1.cell? ⟨bk,o+5,none⟩=some (.int .i64 f):=by have:=hcell 5 qs;simpa using this
    have c6:w1.cell? ⟨bk,o+6,none⟩=some (.int .i64 g):=by have:=hcell 6 qs;simpa using this
    have hz1:=hb1.size
    (try simp at hz1)
    have HX1:=qh (Own w1 w.heap.size 23 [.int .i64 0,.int .i64 0,.int .i64 0,.int .i64 0,.bool false,.int .i64 0,.int .i64 0]) (Own.step hb1 (Own.new w _ #[_,_,_,_,_,_,_]))
    have HB1:=bh w hb1
    have nb:¬ bk=w1.heap.size:=qo
    clear ho hge hb1 hop hcell hlc
    go_wp2_with fail
    go_region_held3 (λw'=>w'.cell? ⟨bk,o,none⟩=some (.int .i64 a)/\w'.cell? ⟨bk,o+1,none⟩=some (.int .i64 b)/\w'.cell? ⟨bk,o+2,none⟩=some (.int .i64 c)/\w'.cell? ⟨bk,o+3,none⟩=some (.int .i64 d)/\w'.cell? ⟨bk,o+4,none⟩=some (.int .i64 e0)/\w'.cell? ⟨bk,o+5,none⟩=some (.int .i64 f)/\w'.cell? ⟨bk,o+6,none⟩=some (.int .i64 g))
     (first|((try dsimp only);refine ⟨?_, ?_, ?_, ?_, ?_, ?_, ?_⟩<;>(go_simp;done))|go_keep)
     (fail)
    all_goals
     go_wp2_with fail
     refine (HFV.out _ bll).mono ?_
     rintro e w2 ⟨rfl,hb2⟩
     have hz2:=hb2.size
     (try simp at hz2)
     have HB2:=bh w hb2
     have HX2:=qh (Own w2 w.heap.size 23 [.int .i64 0,.int .i64 0,.int .i64 0,.int .i64 0,.bool false,.int .i64 0,.int .i64 0]) (Own.step hb2 (owx HX1.out))
     have y0:=λo=>hb2.cell (p:=⟨w1.heap.size,o,none⟩) omm
     have x0:=HX2.out.cell 0
     have x1:=HX2.out.cell 1
     have x2:=HX2.out.cell 2
     have x3:=HX2.out.cell 3
     have x4:=HX2.out.cell 4
     have x5:=HX2.out.cell 5
     have x6:=HX2.out.cell 6
     have xf:=HX2.out.frozen
     (try dsimp only [List.getElem?_cons_succ,List.getElem?_cons_zero] at x0 x1 x2 x3 x4 x5 x6)
     have nx:¬ w.heap.size=w1.heap.size:=qo
     have lx:w1.heap.size<w2.heap.size:=qo
     clear hb2
     go_wp2_with fail
     exact bodyPost_ret (v:=.tuple #[Zbl a b c d E f g,.bool true]) (by simp [results,Tryz.results18,go_sem, *]) rfl ⟨by first|(rw [HPV.out];done)|(rw [HPV.out];rfl),bll⟩
   ·have HPV:=hdQ hq
    clear hq
    have hnl:(T==l)=false:=by simpa using hT
    go_enter Tryz.func18,Tryz.ntmps18
    go_wp2_with fail
    refine (HPI.out _ bll).mono ?_
    rintro e w1 ⟨A,cc,rfl,ho,hge,hb1⟩
    (try simp only [Option.getD_some] at ho)
    obtain ⟨hlc,hcm,hop⟩:=ho.rs.open_
    unfold maxLen at hcm
    obtain ⟨bk,o,rfl,hbl,hcell⟩:=hop qs
    have c0:w1.cell? ⟨bk,o,none⟩=some (.int .i64 a):=by have:=hcell 0 qs;simpa using this
    have c1:w1.cell? ⟨bk,o+1,none⟩=some (.int .i64 b):=by have:=hcell 1 qs;simpa using this
    have c2:w1.cell? ⟨bk,o+2,none⟩=some (.int .i64 c):=by have:=hcell 2 qs;simpa using this
    have c3:w1.cell? ⟨bk,o+3,none⟩=some (.int .i64 d):=by have:=hcell 3 qs;simpa using this
    have c4:w1.cell? ⟨bk,o+4,none⟩=some (.int .i64 e0):=by have:=hcell 4 qs;simpa using this
    have c5:w1.cell? ⟨bk,o+5,none⟩=some (.int .i64 f):=by have:=hcell 5 qs;simpa using this
    have c6:w1.cell? ⟨bk,o+6,none⟩=some (.int .i64 g):=by have:=hcell 6 qs;simpa using this
    have hz1:=hb1.size
    (try simp at hz1)
    have HX1:=qh (Own w1 w.heap.size 23 [.int .i64 0,.int .i64 0,.int .i64 0,.int .i64 0,.bool false,.int .i64 0,.int .i64 0]) (Own.step hb1 (Own.new w _ #[_,_,_,_,_,_,_]))
    have HB1:=bh w hb1
    have nb:¬ bk=w1.heap.size:=qo
    clear ho hge hb1 hop hcell hlc
    go_wp2_with fail
    go_region_held3 (λw'=>w'.cell? ⟨bk,o,none⟩=some (.int .i64 a)/\w'.cell? ⟨bk,o+1,none⟩=some (.int .i64 b)/\w'.cell? ⟨bk,o+2,none⟩=some (.int .i64 c)/\w'.cell? ⟨bk,o+3,none⟩=some (.int .i64 d)/\w'.cell? ⟨bk,o+4,none⟩=some (.int .i64 e0)/\w'.cell? ⟨bk,o+5,none⟩=some (.int .i64 f)/\w'.cell? ⟨bk,o+6,none⟩=some (.int .i64 g))
     (first|((try dsimp only);refine ⟨?_, ?_, ?_, ?_, ?_, ?_, ?_⟩<;>(go_simp;done))|go_keep)
     (fail)
    all_goals
     go_wp2_with fail
     refine (HFV.out _ bll).mono ?_
     rintro e w2 ⟨rfl,hb2⟩
     have hz2:=hb2.size
     (try simp at hz2)
     have HB2:=bh w hb2
     have HX2:=qh (Own w2 w.heap.size 23 [.int .i64 0,.int .i64 0,.int .i64 0,.int .i64 0,.bool false,.int .i64 0,.int .i64 0]) (Own.step hb2 (owx HX1.out))
     have y0:=λo=>hb2.cell (p:=⟨w1.heap.size,o,none⟩) omm
     have x0:=HX2.out.cell 0
     have x1:=HX2.out.cell 1
     have x2:=HX2.out.cell 2
     have x3:=HX2.out.cell 3
     have x4:=HX2.out.cell 4
     have x5:=HX2.out.cell 5
     have x6:=HX2.out.cell 6
     have xf:=HX2.out.frozen
     (try dsimp only [List.getElem?_cons_succ,List.getElem?_cons_zero] at x0 x1 x2 x3 x4 x5 x6)
     have nx:¬ w.heap.size=w1.heap.size:=qo
     have lx:w1.heap.size<w2.heap.size:=qo
     clear hb2
     go_wp2_with fail
     exact bodyPost_ret (v:=.tuple #[.agg #[.int .i64 0,.int .i64 0,.int .i64 0,.int .i64 0,.bool false,.int .i64 0,.int .i64 0],.bool false]) (by simp [results,Tryz.results18,go_sem, *]) rfl ⟨by first|(rw [HPV.out];done)|(rw [HPV.out];rfl),bll⟩
  ·have HPV:=hdQ (parCam_len hp h3)
   have hne:((ls.length:Int) != 7)=true:=by simp;omega
   clear hp
   go_enter Tryz.func18,Tryz.ntmps18
   go_wp2_with fail
   refine (HPI.out _ bll).mono ?_
   rintro e w1 ⟨A,cc,rfl,ho,hge,hb1⟩
   (try simp only [Option.getD_some] at ho)
   have hz1:=hb1.size
   (try simp at hz1)
   have HX1:=qh (Own w1 w.heap.size 23 [.int .i64 0,.int .i64 0,.int .i64 0,.int .i64 0,.bool false,.int .i64 0,.int .i64 0]) (Own.step hb1 (Own.new w _ #[_,_,_,_,_,_,_]))
   have HB1:=bh w hb1
   have x0:=HX1.out.cell 0
   have x1:=HX1.out.cell 1
   have x2:=HX1.out.cell 2
   have x3:=HX1.out.cell 3
   have x4:=HX1.out.cell 4
   have x5:=HX1.out.cell 5
   have x6:=HX1.out.cell 6
   have xf:=HX1.out.frozen
   (try dsimp only [List.getElem?_cons_succ,List.getElem?_cons_zero] at x0 x1 x2 x3 x4 x5 x6)
   clear ho hge hb1
   go_wp2_with fail
   exact bodyPost_ret (v:=.tuple #[.agg #[.int .i64 0,.int .i64 0,.int .i64 0,.int .i64 0,.bool false,.int .i64 0,.int .i64 0],.bool false]) (by simp [results,Tryz.results18,go_sem, *]) rfl ⟨by first|(rw [HPV.out];done)|(rw [HPV.out];rfl),bll⟩
theorem I_ParseCamera (l:List UInt8) (w:World) (hlim:l.length<=1048576) (he:Env w) :
  Calls Tryz.prog 70 #[str l] w λe w'=>e=.returned (outC (parCam l))/\Below w.heap.size w w':=by
 have HPI:=qh (∀ wx,Below w.heap.size w wx->Calls Tryz.prog 132 #[str l] wx (OutPL (Za2 l) wx)) (λwx hb=>I_ParseInts l wx hlim (he.step hb))
 cases hp:Za2 l with
 | none =>
  have HPV:=hdQ (parCam_none hp)
  rw [hp] at HPI
  clear hp
  go_enter Tryz.func70,Tryz.ntmps70
  go_wp2_with fail
  refine (HPI.out _ bll).mono ?_
  rintro e w1 ⟨A,cc,rfl,ho,hge,hb1⟩
  (try simp only [Option.getD_some] at ho)
  have hz1:=hb1.size
  (try simp at hz1)
  have HX1:=qh (Own w1 w.heap.size 23 [.int .i64 0,.int .i64 0,.int .i64 0,.int .i64 0,.bool false,.int .i64 0,.int .i64 0]) (Own.step hb1 (Own.new w _ #[_,_,_,_,_,_,_]))
  have HB1:=bh w hb1
  have x0:=HX1.out.cell 0
  have x1:=HX1.out.cell 1
  have x2:=HX1.out.cell 2
  have x3:=HX1.out.cell 3
  have x4:=HX1.out.cell 4
  have x5:=HX1.out.cell 5
  have x6:=HX1.out.cell 6
  have xf:=HX1.out.frozen
  (try dsimp only [List.getElem?_cons_succ,List.getElem?_cons_zero] at x0 x1 x2 x3 x4 x5 x6)
  clear ho hge hb1
  go_wp2_with fail
  exact bodyPost_ret (v:=.tuple #[.agg #[.int .i64 0,.int .i64 0,.int .i64 0,.int .i64 0,.bool false,.int .i64 0,.int .i64 0],.bool false]) (by simp [results,Tryz.results70,go_sem, *]) rfl ⟨by first|(rw [HPV.out];done)|(rw [HPV.out];rfl),bll⟩
 | some ls =>
  rw [hp] at HPI
  by_cases h3:ls.length=7
  ·obtain ⟨a,b,c,d,e0,f,g,rfl⟩:=seven_of h3
   clear h3
   have hnl:l≠[]:=parse_ne hp
   have HFC:=qh (∃ T:List UInt8,(∀ wx,Below w.heap.size w wx->CB_ Tryz.prog 40 #[Zbl a b c d (e0==1) f g] wx (str T))/\((T=l/\parCam l=some (a,b,c,d,e0==1,f,g))∨(T≠l/\parCam l=none))) (by
    cases hv:Zaz a b c d f g with
    | true =>
     refine ⟨camT a b c d (e0==1) f g,λwx hb=>I_FormatCamera a b c d (e0==1) f g wx hv (he.tab.step hb), ?_⟩
     by_cases ht:camT a b c d (e0==1) f g=l
     ·exact .inl ⟨ht,parCam_of hp hv ht⟩
     ·exact .inr ⟨ht,parCam_other hp ht⟩
    | false=>exact ⟨[],λwx hb=>I_FormatCamera_bad a b c d (e0==1) f g wx hv,.inr ⟨λe=>hnl e.symm,parCam_bad hp hv⟩⟩)
   obtain ⟨T,hfc,hT⟩:=HFC.out
   have HFV:=hdQ hfc
   clear HFC hfc hp hnl
   generalize hE:(e0==1)=E at *
   rcases hT with ⟨hT,hq⟩|⟨hT,hq⟩
   ·have HPV:=hdQ hq
    clear hq
    subst hT
    have hnl:(T != T)=false:=qs
    go_enter Tryz.func70,Tryz.ntmps70
    go_wp2_with fail
    refine (HPI.out _ bll).mono ?_
    rintro e w1 ⟨A,cc,rfl,ho,hge,hb1⟩
    (try simp only [Option.getD_some] at ho)
    obtain ⟨hlc,hcm,hop⟩:=ho.rs.open_
    unfold maxLen at hcm
    obtain ⟨bk,o,rfl,hbl,hcell⟩:=hop qs
    have c0:w1.cell? ⟨bk,o,none⟩=some (.int .i64 a):=by have:=hcell 0 qs;simpa using this
    have c1:w1.cell? ⟨bk,o+1,none⟩=some (.int .i64 b):=by have:=hcell 1 qs;simpa using this
    have c2:w1.cell? ⟨bk,o+2,none⟩=some (.int .i64 c):=by have:=hcell 2 qs;simpa using this
    have c3:w1.cell? ⟨bk,o+3,none⟩=some (.int .i64 d):=by have:=hcell 3 qs;simpa using this
    have c4:w1.cell? ⟨bk,o+4,none⟩=some (.int .i64 e0):=by have:=hcell 4 qs;simpa using this
    have c5:w1.cell? ⟨bk,o+5,none⟩=some (.int .i64 f):=by have:=hcell 5 qs;simpa using this
    have c6:w1.cell? ⟨bk,o+6,none⟩=some (.int .i64 g):=by have:=hcell 6 qs;simpa using this
    have hz1:=hb1.size
    (try simp at hz1)
    have HX1:=qh (Own w1 w.heap.size 23 [.int .i64 0,.int .i64 0,.int .i64 0,.int .i64 0,.bool false,.int .i64 0,.int .i64 0]) (Own.step hb1 (Own.new w _ #[_,_,_,_,_,_,_]))
    have HB1:=bh w hb1
    have nb:¬ bk=w1.heap.size:=qo
    clear ho hge hb1 hop hcell hlc
    go_wp2_with fail
    go_region_held3 (λw'=>w'.cell? ⟨bk,o,none⟩=some (.int .i64 a)/\w'.cell? ⟨bk,o+1,none⟩=some (.int .i64 b)/\w'.cell? ⟨bk,o+2,none⟩=some (.int .i64 c)/\w'.cell? ⟨bk,o+3,none⟩=some (.int .i64 d)/\w'.cell? ⟨bk,o+4,none⟩=some (.int .i64 e0)/\w'.cell? ⟨bk,o+5,none⟩=some (.int .i64 f)/\w'.cell? ⟨bk,o+6,none⟩=some (.int .i64 g))
     (first|((try dsimp only);refine ⟨?_, ?_, ?_, ?_, ?_, ?_, ?_⟩<;>(go_simp;done))|go_keep)
     (fail)
    all_goals
     go_wp2_with fail
     refine (HFV.out _ bll).mono ?_
     rintro e w2 ⟨rfl,hb2⟩
     have hz2:=hb2.size
     (try simp at hz2)
     have HB2:=bh w hb2
     have HX2:=qh (Own w2 w.heap.size 23 [.int .i64 0,.int .i64 0,.int .i64 0,.int .i64 0,.bool false,.int .i64 0,.int .i64 0]) (Own.step hb2 (owx HX1.out))
     have y0:=λo=>hb2.cell (p:=⟨w1.heap.size,o,none⟩) omm
     have x0:=HX2.out.cell 0
     have x1:=HX2.out.cell 1
     have x2:=HX2.out.cell 2
     have x3:=HX2.out.cell 3
     have x4:=HX2.out.cell 4
     have x5:=HX2.out.cell 5
     have x6:=HX2.out.cell 6
     have xf:=HX2.out.frozen
     (try dsimp only [List.getElem?_cons_succ,List.getElem?_cons_zero] at x0 x1 x2 x3 x4 x5 x6)
     have nx:¬ w.heap.size=w1.heap.size:=qo
     have lx:w1.heap.size<w2.heap.size:=qo
     clear hb2
     go_wp2_with fail
     exact bodyPost_ret (v:=.tuple #[Zbl a b c d E f g,.bool true]) (by simp [results,Tryz.results70,go_sem, *]) rfl ⟨by first|(rw [HPV.out];done)|(rw [HPV.out];rfl),bll⟩
   ·have HPV:=hdQ hq
    clear hq
    have hnl:(T==l)=false:=by simpa using hT
    go_enter Tryz.func70,Tryz.ntmps70
    go_wp2_with fail
    refine (HPI.out _ bll).mono ?_
    rintro e w1 ⟨A,cc,rfl,ho,hge,hb1⟩
    (try simp only [Option.getD_some] at ho)
    obtain ⟨hlc,hcm,hop⟩:=ho.rs.open_
    unfold maxLen at hcm
    obtain ⟨bk,o,rfl,hbl,hcell⟩:=hop qs
    have c0:w1.cell? ⟨bk,o,none⟩=some (.int .i64 a):=by have:=hcell 0 qs;simpa using this
    have c1:w1.cell? ⟨bk,o+1,none⟩=some (.int .i64 b):=by have:=hcell 1 qs;simpa using this
    have c2:w1.cell? ⟨bk,o+2,none⟩=some (.int .i64 c):=by have:=hcell 2 qs;simpa using this
    have c3:w1.cell? ⟨bk,o+3,none⟩=some (.int .i64 d):=by have:=hcell 3 qs;simpa using this
    have c4:w1.cell? ⟨bk,o+4,none⟩=some (.int .i64 e0):=by have:=hcell 4 qs;simpa using this
    have c5:w1.cell? ⟨bk,o+5,none⟩=some (.int .i64 f):=by have:=hcell 5 qs;simpa using this
    have c6:w1.cell? ⟨bk,o+6,none⟩=some (.int .i64 g):=by have:=hcell 6 qs;simpa using this
    have hz1:=hb1.size
    (try simp at hz1)
    have HX1:=qh (Own w1 w.heap.size 23 [.int .i64 0,.int .i64 0,.int .i64 0,.int .i64 0,.bool false,.int .i64 0,.int .i64 0]) (Own.step hb1 (Own.new w _ #[_,_,_,_,_,_,_]))
    have HB1:=bh w hb1
    have nb:¬ bk=w1.heap.size:=qo
    clear ho hge hb1 hop hcell hlc
    go_wp2_with fail
    go_region_held3 (λw'=>w'.cell? ⟨bk,o,none⟩=some (.int .i64 a)/\w'.cell? ⟨bk,o+1,none⟩=some (.int .i64 b)/\w'.cell? ⟨bk,o+2,none⟩=some (.int .i64 c)/\w'.cell? ⟨bk,o+3,none⟩=some (.int .i64 d)/\w'.cell? ⟨bk,o+4,none⟩=some (.int .i64 e0)/\w'.cell? ⟨bk,o+5,none⟩=some (.int .i64 f)/\w'.cell? ⟨bk,o+6,none⟩=some (.int .i64 g))
     (first|((try dsimp only);refine ⟨?_, ?_, ?_, ?_, ?_, ?_, ?_⟩<;>(go_simp;done))|go_keep)
     (fail)
    all_goals
     go_wp2_with fail
     refine (HFV.out _ bll).mono ?_
     rintro e w2 ⟨rfl,hb2⟩
     have hz2:=hb2.size
     (try simp at hz2)
     have HB2:=bh w hb2
     have HX2:=qh (Own w2 w.heap.size 23 [.int .i64 0,.int .i64 0,.int .i64 0,.int .i64 0,.bool false,.int .i64 0,.int .i64 0]) (Own.step hb2 (owx HX1.out))
     have y0:=λo=>hb2.cell (p:=⟨w1.heap.size,o,none⟩) omm
     have x0:=HX2.out.cell 0
     have x1:=HX2.out.cell 1
     have x2:=HX2.out.cell 2
     have x3:=HX2.out.cell 3
     have x4:=HX2.out.cell 4
     have x5:=HX2.out.cell 5
     have x6:=HX2.out.cell 6
     have xf:=HX2.out.frozen
     (try dsimp only [List.getElem?_cons_succ,List.getElem?_cons_zero] at x0 x1 x2 x3 x4 x5 x6)
     have nx:¬ w.heap.size=w1.heap.size:=qo
     have lx:w1.heap.size<w2.heap.size:=qo
     clear hb2
     go_wp2_with fail
     exact bodyPost_ret (v:=.tuple #[.agg #[.int .i64 0,.int .i64 0,.int .i64 0,.int .i64 0,.bool false,.int .i64 0,.int .i64 0],.bool false]) (by simp [results,Tryz.results70,go_sem, *]) rfl ⟨by first|(rw [HPV.out];done)|(rw [HPV.out];rfl),bll⟩
  ·have HPV:=hdQ (parCam_len hp h3)
   have hne:((ls.length:Int) != 7)=true:=by simp;omega
   clear hp
   go_enter Tryz.func70,Tryz.ntmps70
   go_wp2_with fail
   refine (HPI.out _ bll).mono ?_
   rintro e w1 ⟨A,cc,rfl,ho,hge,hb1⟩
   (try simp only [Option.getD_some] at ho)
   have hz1:=hb1.size
   (try simp at hz1)
   have HX1:=qh (Own w1 w.heap.size 23 [.int .i64 0,.int .i64 0,.int .i64 0,.int .i64 0,.bool false,.int .i64 0,.int .i64 0]) (Own.step hb1 (Own.new w _ #[_,_,_,_,_,_,_]))
   have HB1:=bh w hb1
   have x0:=HX1.out.cell 0
   have x1:=HX1.out.cell 1
   have x2:=HX1.out.cell 2
   have x3:=HX1.out.cell 3
   have x4:=HX1.out.cell 4
   have x5:=HX1.out.cell 5
   have x6:=HX1.out.cell 6
   have xf:=HX1.out.frozen
   (try dsimp only [List.getElem?_cons_succ,List.getElem?_cons_zero] at x0 x1 x2 x3 x4 x5 x6)
   clear ho hge hb1
   go_wp2_with fail
   exact bodyPost_ret (v:=.tuple #[.agg #[.int .i64 0,.int .i64 0,.int .i64 0,.int .i64 0,.bool false,.int .i64 0,.int .i64 0],.bool false]) (by simp [results,Tryz.results70,go_sem, *]) rfl ⟨by first|(rw [HPV.out];done)|(rw [HPV.out];rfl),bll⟩
def rSurf (l:List Zdz):List Value:=l.flatMap Zfq
theorem eSurf_len (x:Zdz):(Zfq x).length=26:=Zdh _ _ _ _
theorem rSurf_snoc (l:List Zdz) (x:Zdz):rSurf (l++[x])=rSurf l++Zfq x:=by unfold rSurf;rw [List.flatMap_append];simp
theorem rSurf_at:∀ (l:List Zdz) (i:Nat) (h:i<l.length),((rSurf l).drop (i*26)).take 26=Zfq l[i]
 | x::l,0,h=>by
  unfold rSurf
  rw [List.flatMap_cons,Nat.zero_mul,List.drop_zero]
  exact List.take_left' (eSurf_len x)
 | x::l,i+1,h=>by
  have:=rSurf_at l i (by simpa using h)
  unfold rSurf at this ⊢
  rw [List.flatMap_cons,show (i+1)*26=26+i*26 by omega,<- List.drop_drop,List.drop_left' (eSurf_len x),this]
  rfl
theorem eSurf_one (x:Zdz):∀ u∈Zfq x,u.oneCell'=true:=by
 intro u hu
 have:(Zfq x).all (·.oneCell')=true:=rfl
 exact List.all_eq_true.1 this u hu
structure OnlyAt (X:Nat) (w w':World):Prop where
 blk:∀ b,b≠X->w'.heap[b]? = w.heap[b]?
 size:w'.heap.size=w.heap.size
 os:w'.os=w.os
 tape:w'.tape=w.tape
 output:w'.output=w.output
theorem OnlyAt.below {X B:Nat} {w0 w w':World} (h:OnlyAt X w w') (hB:B<=X) (hb:Below B w0 w):Below B w0 w':=Below.trans hb ⟨h.os,h.tape,h.output,by rw [h.size];exact Nat.le_refl _,λb hb'=>h.blk b qo⟩
theorem OnlyAt.setCell (w:World) (X o:Nat) (u:Value):OnlyAt X w (w.setCell ⟨X,o,none⟩ u):=by
 have hb:=(Below.refl 0 w).setCell (p:=⟨X,o,none⟩) (Nat.zero_le _) u
 exact ⟨λb hb=>Below.heap_setCell w ⟨X,o,none⟩ u b hb,qs,hb.os,hb.tape,hb.output⟩
structure SceneR (w:World) (base:Nat) (Z:List Nat) (s:EScene) (T:Option Addr) (tc:Nat) (P:Option Addr) (pc:Nat) (Q:Option Addr) (qc:Nat):Prop where
 tex:Zbu w 1 T s.tex.length tc 3 (ints s.tex)
 texb:∀ y,y∈gOf T->base<=y/\y∉gOf Q/\y∉Z
 ss:Zah w base 45 26 Q s.ss.length qc (rSurf s.ss)
 ssz:∀ y,y∈gOf Q->y∉Z
 ps:Zcq w base (Z++(gOf T++gOf Q)) P pc s.ps
theorem SceneR.nil (w:World) (base:Nat) (Z:List Nat) (s:EScene) (h1:s.tex=[]) (h2:s.ps=[]) (h3:s.ss=[]):SceneR w base Z s none 0 none 0 none 0 :=
 ⟨by rw [h1];exact Zbu.none_ _ _ _,λy hy=>(by cases hy),by rw [h3];exact Zah.nil _ _ _ _,λy hy=>(by cases hy),by rw [h2];exact Zcq.nil _ _ _⟩
theorem SceneR.same {w:World} {base:Nat} {Z:List Nat} {s s':EScene} {T P Q:Option Addr} {tc pc qc:Nat} (h:SceneR w base Z s T tc P pc Q qc) (h1:s'.tex=s.tex) (h2:s'.ps=s.ps) (h3:s'.ss=s.ss):SceneR w base Z s' T tc P pc Q qc :=
 ⟨by rw [h1];exact h.tex,h.texb,by rw [h3];exact h.ss,h.ssz,by rw [h2];exact h.ps⟩
theorem SceneR.keep {w w':World} {base:Nat} {Z:List Nat} {s:EScene} {T P Q:Option Addr} {tc pc qc:Nat} (h:SceneR w base Z s T tc P pc Q qc) (hz:w.heap.size<=w'.heap.size) (hk:∀ x,base<=x->x<w.heap.size->x∉Z->w'.heap[x]? = w.heap[x]?):SceneR w' base Z s T tc P pc Q qc :=
 ⟨h.tex.keep (λx hx hl=>hk x (h.texb x hx).1 hl (h.texb x hx).2.2),h.texb,h.ss.keep (λx hx=>hk x (h.ss.ge x hx) (h.ss.lt x hx) (h.ssz x hx)),h.ssz,h.ps.keep hz (λx a b c=>hk x a b (λq=>c (List.mem_append.2 (.inl q))))⟩
theorem SceneR.step {w w':World} {base:Nat} {Z:List Nat} {s:EScene} {T P Q:Option Addr} {tc pc qc:Nat} (hb:Below w.heap.size w w') (h:SceneR w base Z s T tc P pc Q qc):SceneR w' base Z s T tc P pc Q qc:=h.keep hb.size (λx _ hl _=>hb.block x hl)
theorem SceneR.at_ {w w':World} {base X:Nat} {s:EScene} {T P Q:Option Addr} {tc pc qc:Nat} (h:SceneR w base [X] s T tc P pc Q qc) (hk:OnlyAt X w w'):SceneR w' base [X] s T tc P pc Q qc:=h.keep (by rw [hk.size];exact Nat.le_refl _) (λx _ _ hx=>hk.blk x (by simpa using hx))
theorem Zcq.move {w w':World} {base:Nat} {X Y:List Nat} {P:Option Addr} {pc:Nat} {ps:List Zae} (h:Zcq w base X P pc ps) (hz:w.heap.size<=w'.heap.size) (hk:∀ x,base<=x->x<w.heap.size->x∉X->w'.heap[x]? = w.heap[x]?) (hY:∀ y,y∈Y->y∈X∨w.heap.size<=y):Zcq w' base Y P pc ps:=by
 obtain ⟨cs,lo,hi,h1,h2,h3,h4,h5⟩:=h
 refine ⟨cs,lo,hi,h1.keep (λx hx=>hk x (h1.ge x hx) (h1.lt x hx) (λq=>h5 x q hx)),λi hi'=>(h2 i hi').keep hz (λx a b=>?_),h3,λx hx i hi'=>?_,λx hx hP=>?_⟩
 ·have q:=h2 i hi'
  have b0:=q.b0
  have b2:=q.b2
  refine hk x qo qo (λhX=>?_)
  have:=h4 x (by simp [hX]) i hi'
  omega
 ·rcases List.mem_append.1 hx with hx|hx
  ·exact h4 x (by simp [hx]) i hi'
  ·rcases hY x hx with q|q
   ·exact h4 x (by simp [q]) i hi'
   ·have:=(h2 i hi').b2;omega
 ·rcases hY x hx with q|q
  ·exact h5 x q hP
  ·have:=h1.lt x hP;omega
theorem SceneR.setTex {w w':World} {base:Nat} {Z:List Nat} {s:EScene} {T P Q A:Option Addr} {tc pc qc c:Nat} (h:SceneR w base Z s T tc P pc Q qc) (hb:Below w.heap.size w w') (hZ:∀ z,z∈Z->z<w.heap.size) (hbw:base<=w.heap.size) {l:List Int} (lg:Int) (hA:Zbu w' 1 A l.length c 3 (ints l)) (hg:∀ x,x∈gOf A->w.heap.size<=x) :
  SceneR w' base Z { s with log:=lg,tex:=l } A c P pc Q qc:=by
 have hs:=h.step hb
 refine ⟨hA,λy hy=>⟨Nat.le_trans hbw (hg y hy),λq=>?_,λq=>?_⟩,hs.ss,hs.ssz,h.ps.move hb.size (λx _ hl _=>hb.block x hl) (λy hy=>?_)⟩
 ·have:=h.ss.lt y q;have:=hg y hy;omega
 ·have:=hZ y q;have:=hg y hy;omega
 ·simp only [List.mem_append] at hy ⊢
  rcases hy with q|q|q
  ·exact .inl (.inl q)
  ·exact .inr (hg y q)
  ·exact .inl (.inr (.inr q))
theorem SceneR.surf {w w':World} {base:Nat} {Z:List Nat} {s:EScene} {T P Q Q':Option Addr} {tc pc qc c':Nat} (h:SceneR w base Z s T tc P pc Q qc) (hZ:∀ z,z∈Z->z<w.heap.size) {x:Zdz}
  (ap:Za5 w base 45 26 Q s.ss.length (rSurf s.ss++Zfq x) Q' (s.ss.length+1) c' w'):SceneR w' base Z { s with ss:=s.ss++[x] } T tc P pc Q' c':=by
 have hsz:=ap.2.2.2.1
 have hblk:∀ y,y<w.heap.size->y∉gOf Q->w'.heap[y]? = w.heap[y]? := λy hy hN=>ap.2.2.1.block y hy (by cases Q<;>simp_all [gOf])
 have hQ':∀ y,y∈gOf Q'->y∈gOf Q∨y=w.heap.size:=λy hy=>by
  rcases ap.2.2.2.2 with e|e
  ·rw [e] at hy;exact .inl hy
  ·rw [e] at hy;right;simpa using hy
 refine ⟨h.tex.keep (λy hy hl=>hblk y hl (h.texb y hy).2.1),λy hy=>⟨(h.texb y hy).1,λq=>?_,(h.texb y hy).2.2⟩, ?_,λy hy q=>?_,h.ps.move hsz (λy _ hl hy=>hblk y hl (λq=>hy (by simp [q]))) (λy hy=>?_)⟩
 ·rcases hQ' y q with q|q
  ·exact (h.texb y hy).2.1 q
  ·have:=h.tex.lt y hy;omega
 ·show Zah w' base 45 26 Q' (s.ss++[x]).length c' (rSurf (s.ss++[x]))
  rw [rSurf_snoc,List.length_append];exact ap.1
 ·rcases hQ' y hy with r|r
  ·exact h.ssz y r q
  ·have:=hZ y q;omega
 ·simp only [List.mem_append] at hy ⊢
  rcases hy with q|q|q
  ·exact .inl (.inl q)
  ·exact .inl (.inr (.inl q))
  ·rcases hQ' y q with r|r
   ·exact .inl (.inr (.inr r))
   ·exact .inr qo
theorem SceneR.prog {u v w w':World} {base:Nat} {Z:List Nat} {s:EScene} {T P P' Q:Option Addr} {tc pc qc c':Nat} (h:SceneR u base Z s T tc P pc Q qc) (hZ:∀ z,z∈Z->z<u.heap.size) {p:Zae} {NA AA:Option Addr} {nc ac:Nat} {cs:List Value} {lo hi:Nat->Nat}
  (h1:Zah u base 62 2 P s.ps.length pc cs) (h2:∀ (i:Nat) (h:i<s.ps.length),ProgAtM u base cs i s.ps[i] (lo i) (hi i)) (h3:∀ i j,i<j->j<s.ps.length->hi i<=lo j) (h4:∀ x,x∈gOf P++(Z++(gOf T++gOf Q))->∀ i,i<s.ps.length->x<lo i∨hi i<=x) (h5:∀ x,x∈Z++(gOf T++gOf Q)->x∉gOf P)
  (hbu:base<=u.heap.size) (hb:Below u.heap.size u v) (hpm:Zbm v u.heap.size NA nc p.1 AA ac p.2) (hvw:Below v.heap.size v w)
  (ap:Za5 w base 62 2 P s.ps.length (cs++[.slice NA p.1.length nc,.slice AA p.2.length ac]) P' (s.ps.length+1) c' w'):SceneR w' base Z { s with ps:=s.ps++[p] } T tc P' c' Q qc:=by
 have hsz:=ap.2.2.2.1
 have huv:=hb.size
 have hvz:=hvw.size
 have hblk:∀ y,y<u.heap.size->y∉gOf P->w'.heap[y]? = u.heap[y]? := λy hy hN=>(ap.2.2.1.block y qo (by cases P<;>simp_all [gOf])).trans ((hvw.block y qo).trans (hb.block y hy))
 refine ⟨h.tex.keep (λy hy hl=>hblk y hl (h5 y (by simp [hy]))),h.texb,h.ss.keep (λy hy=>hblk y (h.ss.lt y hy) (h5 y (by simp [hy]))),h.ssz,Zcq.snoc h1 h2 h3 h4 h5 (λy hy=>?_) hbu hb hpm hvw ap⟩
 simp only [List.mem_append] at hy
 rcases hy with q|q|q
 ·exact hZ y q
 ·exact h.tex.lt y q
 ·exact h.ss.lt y q
theorem SceneR.lift {w:World} {base:Nat} {Z:List Nat} {s:EScene} {T P Q:Option Addr} {tc pc qc:Nat} (h:SceneR w base Z s T tc P pc Q qc) (hB:∀ p∈s.ps,progB p):SceneL 0 w s T tc P pc Q qc :=
 ⟨h.tex.rs,λ_ _=>Nat.zero_le _,h.ps.rowL hB,⟨Q,qc,rSurf s.ss,rfl,h.ss.rs,λ_ _=>Nat.zero_le _,λi hi=>by show ((rSurf s.ss).drop (i*26)).take 26=_;rw [rSurf_at _ i hi]⟩⟩
theorem SceneR.fewer {w:World} {base:Nat} {Z:List Nat} {s:EScene} {T P Q:Option Addr} {tc pc qc:Nat} (h:SceneR w base Z s T tc P pc Q qc):SceneR w base [] s T tc P pc Q qc :=
 ⟨h.tex,λy hy=>⟨(h.texb y hy).1,(h.texb y hy).2.1,qs⟩,h.ss,λy hy=>by simp,h.ps.move (Nat.le_refl _) (λ_ _ _ _=>rfl) (λy hy=>.inl (by simp only [List.nil_append,List.mem_append] at hy ⊢;exact .inr hy))⟩
def Zc4 (w:World) (base X:Nat) (s:EScene):Prop :=
 ∃ (T:Option Addr) (tc:Nat) (P:Option Addr) (pc:Nat) (Q:Option Addr) (qc:Nat),base<=X/\Own w X 30 (cS s T tc P pc Q qc)/\SceneR w base [X] s T tc P pc Q qc
theorem Zc4.step {w w':World} {base X:Nat} {s:EScene} (hb:Below w.heap.size w w') (h:Zc4 w base X s):Zc4 w' base X s:=by
 obtain ⟨T,tc,P,pc,Q,qc,h0,h1,h2⟩:=h
 exact ⟨T,tc,P,pc,Q,qc,h0,Own.step hb h1,h2.step hb⟩
theorem cS_camP (o:Option ECam) (s:EScene) (T:Option Addr) (tc:Nat) (P:Option Addr) (pc:Nat) (Q:Option Addr) (qc:Nat):cCam (setCam s o)++(cS s T tc P pc Q qc).drop 7=cS (setCam s o) T tc P pc Q qc:=by
 cases o with
 | none=>rfl
 | some c=>obtain ⟨a,b,c,d,e,f,g⟩:=c;rfl
theorem cCam_set (s:EScene) (o:Option ECam):vC (o.getD zCam)=.agg ⟨cCam (setCam s o)⟩:=by
 cases o with
 | none=>rfl
 | some c=>obtain ⟨a,b,c,d,e,f,g⟩:=c;rfl
theorem Zfy (s:EScene) (o:Option ECam):(setCam s o).tex=s.tex/\(setCam s o).ps=s.ps/\(setCam s o).ss=s.ss:=by
 cases o with
 | none=>exact ⟨rfl,rfl,rfl⟩
 | some c=>obtain ⟨a,b,c,d,e,f,g⟩:=c;exact ⟨rfl,rfl,rfl⟩
theorem Zfl (s:EScene) (o:Option (Int×List Int)):setTex s o={ s with log:=(o.getD (0,[])).1,tex:=(o.getD (0,[])).2 }:=by
 cases o with
 | none=>rfl
 | some c=>rfl
theorem cS_ps (s:EScene) (p:Zae) (T:Option Addr) (tc:Nat) (P:Option Addr) (pc:Nat) (Q:Option Addr) (qc:Nat) (P':Option Addr) (c':Nat):(cS s T tc P pc Q qc).set 9 (.slice P' (s.ps.length+1) c')=cS { s with ps:=s.ps++[p] } T tc P' c' Q qc:=by
 unfold cS cScene
 simp
theorem cS_ss (s:EScene) (x:Zdz) (T:Option Addr) (tc:Nat) (P:Option Addr) (pc:Nat) (Q:Option Addr) (qc:Nat) (Q':Option Addr) (c':Nat):(cS s T tc P pc Q qc).set 10 (.slice Q' (s.ss.length+1) c')=cS { s with ss:=s.ss++[x] } T tc P pc Q' c':=by
 unfold cS cScene
 simp
theorem prog_one (A:Option Addr) (n c:Nat) (B:Option Addr) (m d:Nat):∀ u∈[Value.slice A n c,.slice B m d],u.oneCell'=true:=by
 intro u hu
 simp only [List.mem_cons,List.not_mem_nil,or_false] at hu
 rcases hu with rfl|rfl<;>rfl
theorem T.infoProgA:(Tryz.prog.info? 62).map (λi=>(i.zero,i.size,i.bytes))=some (some (.agg #[.slice none 0 0,.slice none 0 0]),2,48):=kr
section
variable {P:Program} {w w':World} {ops:Array Oper} {rest:List Oper} {o:Oper} {a:Act} {K:Act->World->Prop} {Q:Exit->Act->World->Prop} {E:Prop}
theorem step_oneE (hg:o.guard=none) (t:TypeId) (x:Operand) (ho:o.op=.buildSlice t 1 #[(0,x)]) {v r:Value} (hx:a.eval x=v) (hr:(Instr.buildSlice t 1 #[(0,v)]).run P w=.ok r w') (h:K (a.put o.dst r) w'):if Region.wanted o (yielded ops a.tmps)=true then Oper.wp P o a w K Q else E:=by
 have hw:Region.wanted o (yielded ops a.tmps)=true:=by simp [Region.wanted,hg]
 rw [if_pos hw]
 unfold Oper.wp execOp
 simp only [ho,Sem.run_bind,Sem.run_pure,Result.andThen_ok,List.map_toArray,List.map_cons,List.map_nil,hx,hr]
 exact h
end
theorem one_surf (x:Zdz) (w:World):(Instr.buildSlice 28 1 #[(0,.agg ⟨Zfq x⟩)]).run Tryz.prog w=.ok (.slice (some ⟨w.heap.size,0,none⟩) 1 1) (w.alloc (.cells ⟨Zfq x⟩ 45)):=kr
end Go.Proofs.YticdknjoapdmeaaGreatDoor
namespace Go.Proofs.YticdknjoapdmeaaGreatDoor
set_option maxRecDepth 512
def Small (ns:List Zac):Prop:=∀ x,x∈ns->x.2.2.2.length<=3
def okM:PM->Prop
 | .args _ l=>l.length<=3
 | _=>True
theorem Zeg {T:List Zaq} {n:Zac} {a a1:Nat} {ns n1:List Zac} {v:Int} (hs:Small ns) (hn:n.2.2.2.length<=3) (h:emit T n a ns=.ok v a1 n1):Small n1:=by
 obtain ⟨_,_,rfl,_⟩:=emit_at h
 intro x hx
 rcases List.mem_append.1 hx with q|q
 ·exact hs x q
 ·rw [List.mem_singleton.1 q];exact hn
theorem prs_small {T:List Zaq}:∀ (n:Nat) (m:PM) (d a:Nat) (ns:List Zac),Small ns->okM m->∀ v a1 n1,prs T n m d a ns=.ok v a1 n1->Small n1:=by
 intro n
 induction n with
 | zero=>intro m d a ns _ _ v a1 n1 h;simp [prs] at h
 | succ n ih =>
  intro m d a ns hs hm v a1 n1 h
  match m with
  | .bin add =>
   rw [prs] at h
   cases hr:prs T n (opd add) d a ns with
   | out=>rw [hr] at h;cases h
   | bad o=>rw [hr] at h;cases h
   | ok v2 a2 n2 =>
    rw [hr] at h
    have h2:=ih _ _ _ _ hs (by cases add<;>trivial) _ _ _ hr
    exact ih _ _ _ _ h2 (by exact trivial) _ _ _ h
  | .loop add v0 =>
   rw [prs] at h
   split at h
   ·injection h with _ _ h;subst h;exact hs
   ·cases hr:prs T n (opd add) d (a+1) ns with
    | out=>rw [hr] at h;cases h
    | bad o=>rw [hr] at h;cases h
    | ok b a2 n2 =>
     rw [hr] at h
     have h2:=ih _ _ _ _ hs (by cases add<;>trivial) _ _ _ hr
     dsimp only at h
     cases he:emit T (opS add (pk T a),[],0,[v0,b]) a2 n2 with
     | out=>rw [he] at h;cases h
     | bad o=>rw [he] at h;cases h
     | ok u a3 n3 =>
      rw [he] at h
      exact ih _ _ _ _ (Zeg h2 qs he) (by exact trivial) _ _ _ h
  | .fac =>
   rw [prs] at h
   split at h
   ·cases h
   split at h
   ·cases hr:prs T n .fac (d+1) (a+1) ns with
    | out=>rw [hr] at h;cases h
    | bad o=>rw [hr] at h;cases h
    | ok v2 a2 n2 =>
     rw [hr] at h
     exact Zeg (ih _ _ _ _ hs (by exact trivial) _ _ _ hr) qs h
   split at h
   ·cases hr:prs T n (.bin true) (d+1) (a+1) ns with
    | out=>rw [hr] at h;cases h
    | bad o=>rw [hr] at h;cases h
    | ok v2 a2 n2 =>
     rw [hr] at h
     dsimp only at h
     split at h
     ·injection h with _ _ h;subst h;exact ih _ _ _ _ hs (by exact trivial) _ _ _ hr
     ·cases h
   split at h
   ·exact Zeg hs qs h
   split at h
   ·split at h
    ·exact ih _ _ _ _ hs (by simp [okM]) _ _ _ h
    ·exact Zeg hs qs h
   ·cases h
  | .args name l =>
   have hl:l.length<=3:=hm
   rw [prs] at h
   split at h
   ·exact Zeg hs qs h
   split at h
   ·cases h
   ·rename_i h3
    cases hr:prs T n (.bin true) d a ns with
    | out=>rw [hr] at h;cases h
    | bad o=>rw [hr] at h;cases h
    | ok v2 a2 n2 =>
     rw [hr] at h
     dsimp only at h
     have h2:=ih _ _ _ _ hs (by exact trivial) _ _ _ hr
     have hl2:(l++[v2]).length<=3:=by simp;omega
     split at h
     ·exact ih _ _ _ _ h2 (by exact hl2) _ _ _ h
     split at h
     ·exact Zeg h2 hl2 h
     ·cases h
theorem asg_small {T:List Zaq} {N:Nat}:∀ (n a:Nat) (ns:List Zac) (l:List Zaa) (p:Zae),Small ns->asg T N n a ns l=some (.ok p)->Small p.1:=by
 intro n
 induction n with
 | zero=>intro a ns l p _ h;simp [asg] at h
 | succ n ih =>
  intro a ns l p hs h
  rw [asg] at h
  split at h
  ·injection h with h;injection h with h;subst h;exact hs
  split at h
  ·injection h with h;cases h
  split at h
  ·injection h with h;cases h
  cases hr:prs T N (.bin true) 1 (a+2) ns with
  | out=>rw [hr] at h;cases h
  | bad o=>rw [hr] at h;injection h with h;cases h
  | ok v a1 n1 =>
   rw [hr] at h
   dsimp only at h
   split at h
   ·exact ih _ _ _ _ (prs_small _ _ _ _ _ hs (by exact trivial) _ _ _ hr) h
   ·injection h with h;cases h
theorem parF_small (src:List UInt8):Small (parF src).1.1:=by
 unfold parF
 cases toksF src with
 | error o=>intro x hx;simp at hx
 | ok T =>
  show Small (parT T).1.1
  unfold parT
  cases h:asg T (Zc6 T) (T.length+1) 0 [] [] with
  | none=>intro x hx;simp at hx
  | some r =>
   cases r with
   | error o=>intro x hx;simp at hx
   | ok p=>exact asg_small _ _ _ _ _ (λx hx=>by simp at hx) h
set_option maxRecDepth 100000
open Go.RowKit Go.Lib
def Zft (r:Option (Int×List Int)) (w:World) (e:Ending) (w':World):Prop :=
 ∃ A c,e=.returned (.tuple #[.agg #[.int .i64 (r.getD (0,[])).1,.slice A (r.getD (0,[])).2.length c],.bool r.isSome])/\Zbu w' 1 A (r.getD (0,[])).2.length c 3 (ints (r.getD (0,[])).2)/\(∀ x,x∈gOf A->w.heap.size<=x)/\Below w.heap.size w w'
theorem Zft.none_ {w w':World} (hb:Below w.heap.size w w'):Zft none w (.returned (.tuple #[.agg #[.int .i64 0,.slice none 0 0],.bool false])) w' :=
 ⟨none,0,rfl,Zbu.none_ _ _ _,λx hx=>absurd hx (by simp [gOf]),hb⟩
theorem parTex_no1 {l:List UInt8} (h:parseI (cut l [58]).1=none):parTex l=none:=by unfold parTex;rw [h]
theorem parTex_no2 {l:List UInt8} (h:Za2 (cut l [58]).2.1=none):parTex l=none:=by
 unfold parTex;rw [h];split
 ·rename_i h2;cases h2
 ·rfl
theorem parTex_yes {l:List UInt8} {log:Int} {tex:List Int} (h1:parseI (cut l [58]).1=some log) (h2:Za2 (cut l [58]).2.1=some tex):parTex l=if Zak log tex then some (log,tex) else none:=by
 unfold parTex;rw [h1,h2]
theorem Ze6 (l:List UInt8) (c:UInt8):(cut l [c]).1.length<=l.length/\(cut l [c]).2.1.length<=l.length:=by
 rcases cut_split c l with ⟨_,_,h⟩|⟨u,v,_,h1,_,h⟩
 ·rw [h];simp
 ·rw [h,h1];simp;omega
theorem I_CutS (l:List UInt8) (c:UInt8) (wx:World) (hlim:l.length<=1048576) (he:Env wx):Calls Tryz.prog 69 #[str l,.string ⟨#[c]⟩] wx λe w'=>e=.returned (.tuple #[str (cut l [c]).1,str (cut l [c]).2.1,.bool (cut l [c]).2.2])/\Below wx.heap.size wx w':=by
 obtain ⟨m,hm⟩:=he.mlen
 have h0:=Tryz.strings_Cut ⟨l.toArray⟩ ⟨#[c]⟩ m wx (by show l.length<_;omega) hm
 refine h0.mono λe w' ⟨h1,n,h2⟩=>⟨h1, ?_⟩
 subst h2
 exact Zb6 (Below.refl _ _) n
set_option maxHeartbeats 8000000 in
theorem I_ParseTexture (l:List UInt8) (w:World) (hlim:l.length<=1048576) (he:Env w) :
  Calls Tryz.prog 71 #[str l] w (Zft (parTex l) w):=by
 have HE:=hdQ he
 have hls:=Ze6 l 58
 have HCT:=qh (∀ wx,Below w.heap.size w wx->CB_ Tryz.prog 69 #[str l,.string ⟨#[58]⟩] wx (.tuple #[str (cut l [58]).1,str (cut l [58]).2.1,.bool (cut l [58]).2.2])) (λwx hb=>I_CutS l 58 wx hlim (HE.out.step hb))
 have H1:=qh (∀ wx,Below w.heap.size w wx->CB_ Tryz.prog 72 #[str (cut l [58]).1] wx (.tuple #[.int .i64 ((parseI (cut l [58]).1).getD 0),.bool (parseI (cut l [58]).1).isSome])) (λwx hb=>Zej _ wx qo (HE.out.step hb))
 have H2:=qh (∀ wx,Below w.heap.size w wx->Calls Tryz.prog 132 #[str (cut l [58]).2.1] wx (OutPL (Za2 (cut l [58]).2.1) wx)) (λwx hb=>I_ParseInts _ wx qo (HE.out.step hb))
 have HN1:=hdQ (@parTex_no1 l)
 have HN2:=hdQ (@parTex_no2 l)
 have HY:=qh (∀ (log:Int) (tex:List Int),parseI (cut l [58]).1=some log->Za2 (cut l [58]).2.1=some tex->parTex l=if Zak log tex then some (log,tex) else none) (λlog tex h1 h2=>parTex_yes h1 h2)
 clear he hls
 generalize (cut l [58]).1=u at *
 generalize (cut l [58]).2.1=v at *
 generalize (cut l [58]).2.2=bb at *
 cases hr1:parseI u with
 | none =>
  have HPV:=hdQ (HN1.out hr1)
  rw [hr1] at H1
  simp only [Option.getD_none,Option.isSome_none] at H1
  clear HN1 HN2 HY hr1
  go_enter Tryz.func71,Tryz.ntmps71
  go_wp2_with fail
  refine (HCT.out _ bll).mono ?_
  rintro e w1 ⟨rfl,hb1⟩
  have hz1:=hb1.size
  (try simp at hz1)
  have HX1:=qh (Own w1 w.heap.size 26 [.int .i64 0,.slice none 0 0]) (Own.step hb1 (Own.new w _ #[_,_]))
  have HB1:=bh w hb1
  clear hb1
  go_wp2_with fail
  refine (H1.out _ HB1.out).mono ?_
  rintro e w2 ⟨rfl,hb2⟩
  have hz2:=hb2.size
  have HX2:=hdQ (Own.step hb2 HX1.out)
  have HB2:=qh (Below w.heap.size w w2) (Below.step hb2 HB1.out HB1.out.size)
  clear hb2
  go_wp2_with fail
  refine (H2.out _ HB2.out).mono ?_
  rintro e w3 ⟨A,c,rfl,ho,hge,hb3⟩
  (try simp only [Option.getD_some,Option.isSome_some,Option.getD_none,Option.isSome_none] at ho)
  (try simp only [Option.getD_some,Option.isSome_some,Option.getD_none,Option.isSome_none])
  have hz3:=hb3.size
  have HX3:=hdQ (Own.step hb3 HX2.out)
  have HB3:=qh (Below w.heap.size w w3) (Below.step hb3 HB2.out HB2.out.size)
  have HO:=hdQ ho
  have HGE:=qh (∀ x,x∈gOf A->w.heap.size+1<=x) (λx hx=>by have:=hge x hx;omega)
  have x0:=HX3.out.cell 0
  have x1:=HX3.out.cell 1
  have xf:=HX3.out.frozen
  have xl:=HX3.out.lt
  have nx:¬ w.heap.size=w3.heap.size:=qo
  (try dsimp only [List.getElem?_cons_succ,List.getElem?_cons_zero] at x0 x1)
  clear hb3 ho hge
  go_wp2_with fail
  rw [HPV.out]
  exact bodyPost_ret (v:=.tuple #[.agg #[.int .i64 0,.slice none 0 0],.bool false]) (by simp [results,Tryz.results71,go_sem, *]) rfl (Zft.none_ bll)
 | some log =>
  rw [hr1] at H1
  simp only [Option.getD_some,Option.isSome_some] at H1
  cases hr2:Za2 v with
  | none =>
   have HPV:=hdQ (HN2.out hr2)
   rw [hr2] at H2
   clear HN1 HN2 HY hr1 hr2
   go_enter Tryz.func71,Tryz.ntmps71
   go_wp2_with fail
   refine (HCT.out _ bll).mono ?_
   rintro e w1 ⟨rfl,hb1⟩
   have hz1:=hb1.size
   (try simp at hz1)
   have HX1:=qh (Own w1 w.heap.size 26 [.int .i64 0,.slice none 0 0]) (Own.step hb1 (Own.new w _ #[_,_]))
   have HB1:=bh w hb1
   clear hb1
   go_wp2_with fail
   refine (H1.out _ HB1.out).mono ?_
   rintro e w2 ⟨rfl,hb2⟩
   have hz2:=hb2.size
   have HX2:=hdQ (Own.step hb2 HX1.out)
   have HB2:=qh (Below w.heap.size w w2) (Below.step hb2 HB1.out HB1.out.size)
   clear hb2
   go_wp2_with fail
   refine (H2.out _ HB2.out).mono ?_
   rintro e w3 ⟨A,c,rfl,ho,hge,hb3⟩
   (try simp only [Option.getD_some,Option.isSome_some,Option.getD_none,Option.isSome_none] at ho)
   (try simp only [Option.getD_some,Option.isSome_some,Option.getD_none,Option.isSome_none])
   have hz3:=hb3.size
   have HX3:=hdQ (Own.step hb3 HX2.out)
   have HB3:=qh (Below w.heap.size w w3) (Below.step hb3 HB2.out HB2.out.size)
   have HO:=hdQ ho
   have HGE:=qh (∀ x,x∈gOf A->w.heap.size+1<=x) (λx hx=>by have:=hge x hx;omega)
   have x0:=HX3.out.cell 0
   have x1:=HX3.out.cell 1
   have xf:=HX3.out.frozen
   have xl:=HX3.out.lt
   have nx:¬ w.heap.size=w3.heap.size:=qo
   (try dsimp only [List.getElem?_cons_succ,List.getElem?_cons_zero] at x0 x1)
   clear hb3 ho hge
   go_wp2_with fail
   rw [HPV.out]
   exact bodyPost_ret (v:=.tuple #[.agg #[.int .i64 0,.slice none 0 0],.bool false]) (by simp [results,Tryz.results71,go_sem, *]) rfl (Zft.none_ bll)
  | some tex =>
   have hy:=HY.out log tex hr1 hr2
   rw [hr2] at H2
   clear HN1 HN2 HY hr1 hr2
   cases hv:Zak log tex with
   | false =>
    rw [hv] at hy
    simp only [if_true,Bool.false_eq_true,if_false] at hy
    have HPV:=hdQ hy
    clear hy
    go_enter Tryz.func71,Tryz.ntmps71
    go_wp2_with fail
    refine (HCT.out _ bll).mono ?_
    rintro e w1 ⟨rfl,hb1⟩
    have hz1:=hb1.size
    (try simp at hz1)
    have HX1:=qh (Own w1 w.heap.size 26 [.int .i64 0,.slice none 0 0]) (Own.step hb1 (Own.new w _ #[_,_]))
    have HB1:=bh w hb1
    clear hb1
    go_wp2_with fail
    refine (H1.out _ HB1.out).mono ?_
    rintro e w2 ⟨rfl,hb2⟩
    have hz2:=hb2.size
    have HX2:=hdQ (Own.step hb2 HX1.out)
    have HB2:=qh (Below w.heap.size w w2) (Below.step hb2 HB1.out HB1.out.size)
    clear hb2
    go_wp2_with fail
    refine (H2.out _ HB2.out).mono ?_
    rintro e w3 ⟨A,c,rfl,ho,hge,hb3⟩
    (try simp only [Option.getD_some,Option.isSome_some,Option.getD_none,Option.isSome_none] at ho)
    (try simp only [Option.getD_some,Option.isSome_some,Option.getD_none,Option.isSome_none])
    have hz3:=hb3.size
    have HX3:=hdQ (Own.step hb3 HX2.out)
    have HB3:=qh (Below w.heap.size w w3) (Below.step hb3 HB2.out HB2.out.size)
    have HO:=hdQ ho
    have HGE:=qh (∀ x,x∈gOf A->w.heap.size+1<=x) (λx hx=>by have:=hge x hx;omega)
    have x0:=HX3.out.cell 0
    have x1:=HX3.out.cell 1
    have xf:=HX3.out.frozen
    have xl:=HX3.out.lt
    have nx:¬ w.heap.size=w3.heap.size:=qo
    (try dsimp only [List.getElem?_cons_succ,List.getElem?_cons_zero] at x0 x1)
    clear hb3 ho hge
    clear x0 x1 xf
    have HIV:=qh (∀ wx,Below w3.heap.size w3 wx->CB_ Tryz.prog 76 #[Zcc log (.slice A tex.length c)] wx (.bool false)) (λwx hb=>by have:=Zcv (log:=log) wx (RS.step hb HO.out.rs);rw [hv] at this;exact this)
    go_wp2_with (first|(go_at_call 76;(with_reducible refine (HIV.out _ bll).mono ?_);rintro e w4 ⟨rfl,hb4⟩;have hz4:=hb4.size;(try simp at hz4);have HX4:=qh (Own w4 w.heap.size 26 [.int .i64 0,.slice none 0 0]) (Own.step hb4 (owx HX3.out));have HB4:=bh w hb4;have x0:=HX4.out.cell 0;have x1:=HX4.out.cell 1;have xf:=HX4.out.frozen;(try dsimp only [List.getElem?_cons_succ,List.getElem?_cons_zero] at x0 x1))|fail)
    rw [HPV.out]
    exact bodyPost_ret (v:=.tuple #[.agg #[.int .i64 0,.slice none 0 0],.bool false]) (by simp [results,Tryz.results71,go_sem, *]) rfl (Zft.none_ bll)
   | true =>
    rw [hv] at hy
    simp only [if_true,Bool.false_eq_true,if_false] at hy
    have HPV:=hdQ hy
    clear hy
    go_enter Tryz.func71,Tryz.ntmps71
    go_wp2_with fail
    refine (HCT.out _ bll).mono ?_
    rintro e w1 ⟨rfl,hb1⟩
    have hz1:=hb1.size
    (try simp at hz1)
    have HX1:=qh (Own w1 w.heap.size 26 [.int .i64 0,.slice none 0 0]) (Own.step hb1 (Own.new w _ #[_,_]))
    have HB1:=bh w hb1
    clear hb1
    go_wp2_with fail
    refine (H1.out _ HB1.out).mono ?_
    rintro e w2 ⟨rfl,hb2⟩
    have hz2:=hb2.size
    have HX2:=hdQ (Own.step hb2 HX1.out)
    have HB2:=qh (Below w.heap.size w w2) (Below.step hb2 HB1.out HB1.out.size)
    clear hb2
    go_wp2_with fail
    refine (H2.out _ HB2.out).mono ?_
    rintro e w3 ⟨A,c,rfl,ho,hge,hb3⟩
    (try simp only [Option.getD_some,Option.isSome_some,Option.getD_none,Option.isSome_none] at ho)
    (try simp only [Option.getD_some,Option.isSome_some,Option.getD_none,Option.isSome_none])
    have hz3:=hb3.size
    have HX3:=hdQ (Own.step hb3 HX2.out)
    have HB3:=qh (Below w.heap.size w w3) (Below.step hb3 HB2.out HB2.out.size)
    have HO:=hdQ ho
    have HGE:=qh (∀ x,x∈gOf A->w.heap.size+1<=x) (λx hx=>by have:=hge x hx;omega)
    have x0:=HX3.out.cell 0
    have x1:=HX3.out.cell 1
    have xf:=HX3.out.frozen
    have xl:=HX3.out.lt
    have nx:¬ w.heap.size=w3.heap.size:=qo
    (try dsimp only [List.getElem?_cons_succ,List.getElem?_cons_zero] at x0 x1)
    clear hb3 ho hge
    clear x0 x1 xf
    have HIV:=qh (∀ wx,Below w3.heap.size w3 wx->CB_ Tryz.prog 76 #[Zcc log (.slice A tex.length c)] wx (.bool true)) (λwx hb=>by have:=Zcv (log:=log) wx (RS.step hb HO.out.rs);rw [hv] at this;exact this)
    go_wp2_with (first|(go_at_call 76;(with_reducible refine (HIV.out _ bll).mono ?_);rintro e w4 ⟨rfl,hb4⟩;have hz4:=hb4.size;(try simp at hz4);have HX4:=qh (Own w4 w.heap.size 26 [.int .i64 0,.slice none 0 0]) (Own.step hb4 (owx HX3.out));have HO4:=qh (Zbu w4 1 A tex.length c 3 (ints tex)) (Zbu.step (bst hb4) HO.out);have HB4:=bh w hb4;have x0:=HX4.out.cell 0;have x1:=HX4.out.cell 1;have xf:=HX4.out.frozen;have k0:=λo=>hb4.cell (p:=⟨w3.heap.size,o,none⟩) omm;have nx:¬ w.heap.size=w3.heap.size:=qo;(try dsimp only [List.getElem?_cons_succ,List.getElem?_cons_zero] at x0 x1))|fail)
    rw [HPV.out]
    exact bodyPost_ret (v:=.tuple #[.agg #[.int .i64 log,.slice A tex.length c],.bool true]) (by simp [results,Tryz.results71,go_sem, *]) rfl ⟨A,c,rfl,(by (repeat ((with_reducible refine Zbu.far ?_ ?_ _);rotate_left;(intro x hx;have:=HGE.out x hx;simp;omega)));exact HO4.out),(λx hx=>by have:=HGE.out x hx;omega),bll⟩
set_option maxRecDepth 512
def NmN (N:Nat) (ns:List Zac):Prop:=∀ x,x∈ns->x.2.1.length<=N
def TxN (N:Nat) (T:List Zaq):Prop:=∀ i,(tx T i).length<=N
def okNm (N:Nat):PM->Prop
 | .args name _=>name.length<=N
 | _=>True
theorem emit_nm {N:Nat} {T:List Zaq} {n:Zac} {a a1:Nat} {ns n1:List Zac} {v:Int} (hs:NmN N ns) (hn:n.2.1.length<=N) (h:emit T n a ns=.ok v a1 n1):NmN N n1:=by
 obtain ⟨_,_,rfl,_⟩:=emit_at h
 intro x hx
 rcases List.mem_append.1 hx with q|q
 ·exact hs x q
 ·rw [List.mem_singleton.1 q];exact hn
theorem prs_nm {N:Nat} {T:List Zaq} (hT:TxN N T):∀ (n:Nat) (m:PM) (d a:Nat) (ns:List Zac),NmN N ns->okNm N m->∀ v a1 n1,prs T n m d a ns=.ok v a1 n1->NmN N n1:=by
 intro n
 induction n with
 | zero=>intro m d a ns _ _ v a1 n1 h;simp [prs] at h
 | succ n ih =>
  intro m d a ns hs hm v a1 n1 h
  match m with
  | .bin add =>
   rw [prs] at h
   cases hr:prs T n (opd add) d a ns with
   | out=>rw [hr] at h;cases h
   | bad o=>rw [hr] at h;cases h
   | ok v2 a2 n2 =>
    rw [hr] at h
    have h2:=ih _ _ _ _ hs (by cases add<;>trivial) _ _ _ hr
    exact ih _ _ _ _ h2 (by exact trivial) _ _ _ h
  | .loop add v0 =>
   rw [prs] at h
   split at h
   ·injection h with _ _ h;subst h;exact hs
   ·cases hr:prs T n (opd add) d (a+1) ns with
    | out=>rw [hr] at h;cases h
    | bad o=>rw [hr] at h;cases h
    | ok b a2 n2 =>
     rw [hr] at h
     have h2:=ih _ _ _ _ hs (by cases add<;>trivial) _ _ _ hr
     dsimp only at h
     cases he:emit T (opS add (pk T a),[],0,[v0,b]) a2 n2 with
     | out=>rw [he] at h;cases h
     | bad o=>rw [he] at h;cases h
     | ok u a3 n3 =>
      rw [he] at h
      exact ih _ _ _ _ (emit_nm h2 qs he) (by exact trivial) _ _ _ h
  | .fac =>
   rw [prs] at h
   split at h
   ·cases h
   split at h
   ·cases hr:prs T n .fac (d+1) (a+1) ns with
    | out=>rw [hr] at h;cases h
    | bad o=>rw [hr] at h;cases h
    | ok v2 a2 n2 =>
     rw [hr] at h
     exact emit_nm (ih _ _ _ _ hs (by exact trivial) _ _ _ hr) qs h
   split at h
   ·cases hr:prs T n (.bin true) (d+1) (a+1) ns with
    | out=>rw [hr] at h;cases h
    | bad o=>rw [hr] at h;cases h
    | ok v2 a2 n2 =>
     rw [hr] at h
     dsimp only at h
     split at h
     ·injection h with _ _ h;subst h;exact ih _ _ _ _ hs (by exact trivial) _ _ _ hr
     ·cases h
   split at h
   ·exact emit_nm hs qs h
   split at h
   ·split at h
    ·exact ih _ _ _ _ hs (by exact hT _) _ _ _ h
    ·exact emit_nm hs (by exact hT _) h
   ·cases h
  | .args name l =>
   have hl:name.length<=N:=hm
   rw [prs] at h
   split at h
   ·exact emit_nm hs hl h
   split at h
   ·cases h
   ·rename_i h3
    cases hr:prs T n (.bin true) d a ns with
    | out=>rw [hr] at h;cases h
    | bad o=>rw [hr] at h;cases h
    | ok v2 a2 n2 =>
     rw [hr] at h
     dsimp only at h
     have h2:=ih _ _ _ _ hs (by exact trivial) _ _ _ hr
     split at h
     ·exact ih _ _ _ _ h2 (by exact hl) _ _ _ h
     split at h
     ·exact emit_nm h2 hl h
     ·cases h
theorem asg_nm {M:Nat} {T:List Zaq} (hT:TxN M T) {N:Nat}:∀ (n a:Nat) (ns:List Zac) (l:List Zaa) (p:Zae),NmN M ns->(∀ x,x∈l->x.1.length<=M)->asg T N n a ns l=some (.ok p)->NmN M p.1/\∀ x,x∈p.2->x.1.length<=M:=by
 intro n
 induction n with
 | zero=>intro a ns l p _ _ h;simp [asg] at h
 | succ n ih =>
  intro a ns l p hs hl h
  rw [asg] at h
  split at h
  ·injection h with h;injection h with h;subst h;exact ⟨hs,hl⟩
  split at h
  ·injection h with h;cases h
  split at h
  ·injection h with h;cases h
  cases hr:prs T N (.bin true) 1 (a+2) ns with
  | out=>rw [hr] at h;cases h
  | bad o=>rw [hr] at h;injection h with h;cases h
  | ok v a1 n1 =>
   rw [hr] at h
   dsimp only at h
   split at h
   ·exact ih _ _ _ _ (prs_nm hT _ _ _ _ _ hs (by exact trivial) _ _ _ hr) (λx hx=>by
     rcases List.mem_append.1 hx with q|q
     ·exact hl x q
     ·rw [List.mem_singleton.1 q];exact hT _) h
   ·injection h with h;cases h
theorem tokz_nm {src:List UInt8}:∀ (n a:Nat) (l r:List Zaq),(∀ x,x∈l->x.2.1.length<=src.length)->tokz src n a l=.ok r->∀ x,x∈r->x.2.1.length<=src.length:=by
 intro n
 induction n with
 | zero=>intro a l r hl h;rw [tokz] at h;injection h with h;subst h;exact hl
 | succ n ih =>
  intro a l r hl h
  rw [tokz] at h
  split at h
  ·injection h with h;subst h;exact hl
  ·split at h
   ·exact ih _ _ _ hl h
   ·split at h
    ·cases h
    ·exact ih _ _ _ (λx hx=>by
      rcases List.mem_append.1 hx with q|q
      ·exact hl x q
      ·rw [List.mem_singleton.1 q]
       simp only [List.length_take,List.length_drop]
       omega) h
theorem toks_tx {N:Nat} {T:List Zaq} (h:∀ x,x∈T->x.2.1.length<=N):TxN N T:=by
 intro i
 unfold tx tk
 rcases Nat.lt_or_ge i T.length with hi|hi
 ·rw [List.getD_eq_getElem?_getD,List.getElem?_eq_getElem hi]
  exact h _ (List.getElem_mem hi)
 ·rw [List.getD_eq_getElem?_getD,List.getElem?_eq_none hi]
  simp
theorem parF_nm (src:List UInt8):NmN src.length (parF src).1.1/\∀ x,x∈(parF src).1.2->x.1.length<=src.length:=by
 unfold parF
 cases hk:toksF src with
 | error o=>exact ⟨λx hx=>by simp at hx,λx hx=>by simp at hx⟩
 | ok T =>
  have hT:TxN src.length T:=by
   unfold toksF at hk
   split at hk
   ·cases hk
   ·cases hz:tokz src (src.length+1) 0 [] with
    | error o=>rw [hz] at hk;cases hk
    | ok r =>
     rw [hz] at hk
     obtain rfl:r++[(0,[],0,(src.length:Int))]=T:=by injection hk
     refine toks_tx (λx hx=>?_)
     rcases List.mem_append.1 hx with q|q
     ·exact tokz_nm _ _ _ _ (λx hx=>by cases hx) hz x q
     ·rw [List.mem_singleton.1 q];simp
  show NmN src.length (parT T).1.1/\∀ x,x∈(parT T).1.2->x.1.length<=src.length
  unfold parT
  cases h:asg T (Zc6 T) (T.length+1) 0 [] [] with
  | none=>exact ⟨λx hx=>by simp at hx,λx hx=>by simp at hx⟩
  | some r =>
   cases r with
   | error o=>exact ⟨λx hx=>by simp at hx,λx hx=>by simp at hx⟩
   | ok p=>exact asg_nm hT _ _ _ _ _ (λx hx=>by simp at hx) (λx hx=>by simp at hx) h
def ProgN (p:Zae):Prop:=NmN 1048576 p.1/\(∀ x,x∈p.2->x.1.length<=1048576)/\Small p.1
theorem parF_N {src:List UInt8} (h:src.length<=1048576):ProgN (parF src).1:=⟨λx hx=>Nat.le_trans ((parF_nm src).1 x hx) h,λx hx=>Nat.le_trans ((parF_nm src).2 x hx) h,parF_small src⟩
theorem Zcq.prB {w:World} {base:Nat} {X:List Nat} {P:Option Addr} {pc:Nat} {ps:List Zae} (h:Zcq w base X P pc ps) (hN:∀ p∈ps,ProgN p):∀ p∈ps,progB p:=by
 obtain ⟨cs,lo,hi,h1,h2,_⟩:=h
 intro p hp
 obtain ⟨i,hi',rfl⟩:=List.getElem_of_mem hp
 obtain ⟨NA,nc,AA,ac,_,_,hpm,_⟩:=(h2 i hi').ex
 have hn:=hN _ (List.getElem_mem hi')
 have h60:=hpm.2.2.2.1
 have hal:=hpm.2.2.2.2
 exact ⟨⟨qo,λy hy=>⟨hn.1 y hy,by have:=hn.2.2 y hy;omega⟩⟩,⟨hal,λy hy=>hn.2.1 y hy⟩⟩
def Zd5 (s:EScene):Prop:=∀ p∈s.ps,ProgN p
theorem Zd5.setCam {s:EScene} (h:Zd5 s) (o:Option ECam):Zd5 (setCam s o):=by unfold Zd5;rw [(Zfy s o).2.1];exact h
theorem Zd5.snoc {s:EScene} (h:Zd5 s) {src:List UInt8} (hs:src.length<=1048576):Zd5 { s with ps:=s.ps++[(parF src).1] }:=λp hp=>by
 rcases List.mem_append.1 hp with q|q
 ·exact h p q
 ·rw [List.mem_singleton.1 q];exact parF_N hs
theorem Zd5.updI {s:EScene} (h:Zd5 s) {l:List UInt8} (hl:l.length<=1048576):Zd5 (updI s l):=by
 have hc:=(Ze6 l 32).2
 unfold Go.Proofs.YticdknjoapdmeaaGreatDoor.updI
 dsimp only
 split
 ·exact h.setCam _
 split
 ·rw [Zfl];exact h
 split
 ·exact h
 split
 ·exact h.snoc qo
 split
 ·exact h
 ·exact h
theorem setCam_len (s:EScene) (o:Option ECam):(setCam s o).ps.length=s.ps.length/\(setCam s o).ss.length=s.ss.length:=by
 obtain ⟨_,h1,h2⟩:=Zfy s o
 rw [h1,h2];exact ⟨rfl,rfl⟩
theorem updI_len (s:EScene) (l:List UInt8):(updI s l).ps.length<=s.ps.length+1/\(updI s l).ss.length<=s.ss.length+1:=by
 unfold updI
 dsimp only
 split
 ·have:=setCam_len s (parCam (cut l [32]).2.1);omega
 split
 ·rw [Zfl];constructor<;>simp
 split
 ·constructor<;>simp
 split
 ·constructor<;>simp
 split
 ·constructor<;>simp
 ·constructor<;>omega
def toI (ls:List (List UInt8)) (k:Nat):EScene:=(ls.take k).foldl updI Zdp
def toS (ls:List (List UInt8)) (k:Nat):EScene:=(ls.take k).foldl updS Zdp
theorem toI_succ {ls:List (List UInt8)} {k:Nat} (h:k<ls.length):toI ls (k+1)=updI (toI ls k) ls[k]:=by
 unfold toI
 rw [List.take_succ_eq_append_getElem h,List.foldl_append];rfl
theorem toS_succ {ls:List (List UInt8)} {k:Nat} (h:k<ls.length):toS ls (k+1)=updS (toS ls k) ls[k]:=by
 unfold toS
 rw [List.take_succ_eq_append_getElem h,List.foldl_append];rfl
theorem toI_len (ls:List (List UInt8)):∀ k,k<=ls.length->(toI ls k).ps.length<=k/\(toI ls k).ss.length<=k
 | 0,_=>⟨Nat.le_refl _,Nat.le_refl _⟩
 | k+1,h=>by
  rw [toI_succ h]
  have h1:=toI_len ls k qo
  have h2:=updI_len (toI ls k) ls[k]
  omega
theorem toI_N {ls:List (List UInt8)} (hl:∀ l∈ls,l.length<=1048576):∀ k,k<=ls.length->Zd5 (toI ls k)
 | 0,_=>λp hp=>by cases hp
 | k+1,h=>by
  rw [toI_succ h]
  exact (toI_N hl k qo).updI (hl _ (List.getElem_mem h))
theorem Zf6 {l:List UInt8}:(join ((splitB 32 l++[[]]).drop 1) [32]).length<=l.length/\(join (splitB 32 l).tail [32]).length<=l.length:=by
 rcases cut_split 32 l with ⟨_,h,_⟩|⟨u,v,_,h1,h2,_⟩
 ·rw [h];simp [join]
 ·have hne:=(Zcm 32 v).2.2
  rw [h2]
  simp only [List.cons_append,List.drop_succ_cons,List.drop_zero,List.tail_cons]
  rw [join_snoc_nil hne,(Zcm 32 v).1,h1]
  simp
  omega
theorem Zd5.updS {s:EScene} (h:Zd5 s) {l:List UInt8} (hl:l.length<=1048576):Zd5 (updS s l):=by
 have hc:=(Zf6 (l:=l)).1
 unfold Go.Proofs.YticdknjoapdmeaaGreatDoor.updS
 dsimp only
 split
 ·exact h.setCam _
 split
 ·rw [Zfl];exact h
 split
 ·exact h
 split
 ·exact h.snoc qo
 split
 ·exact h
 ·exact h
theorem updS_len (s:EScene) (l:List UInt8):(updS s l).ps.length<=s.ps.length+1/\(updS s l).ss.length<=s.ss.length+1:=by
 unfold updS
 dsimp only
 split
 ·have:=setCam_len s (parCam ((splitB 32 l++[[]]).getD 1 []));omega
 split
 ·rw [Zfl];constructor<;>simp
 split
 ·constructor<;>simp
 split
 ·constructor<;>simp
 split
 ·constructor<;>simp
 ·constructor<;>omega
theorem toS_len (ls:List (List UInt8)):∀ k,k<=ls.length->(toS ls k).ps.length<=k/\(toS ls k).ss.length<=k
 | 0,_=>⟨Nat.le_refl _,Nat.le_refl _⟩
 | k+1,h=>by
  rw [toS_succ h]
  have h1:=toS_len ls k qo
  have h2:=updS_len (toS ls k) ls[k]
  omega
theorem toS_N {ls:List (List UInt8)} (hl:∀ l∈ls,l.length<=1048576):∀ k,k<=ls.length->Zd5 (toS ls k)
 | 0,_=>λp hp=>by cases hp
 | k+1,h=>by
  rw [toS_succ h]
  exact (toS_N hl k qo).updS (hl _ (List.getElem_mem h))
theorem linesT_len {t:List UInt8}:(∀ l∈linesT t,l.length<=t.length)/\(linesT t).length<=t.length+1:=by
 have h1:∀ l∈splitB 10 t,l.length<=t.length:=λl h=>Zc3 h
 have h2:(splitB 10 t).length<=t.length+1:=Zbe 10 t
 unfold linesT
 split
 ·exact ⟨λl hl=>h1 l (List.dropLast_subset _ hl),by rw [List.length_dropLast];omega⟩
 ·exact ⟨h1,h2⟩
theorem pI_to (t:List UInt8):pI t=toI (linesT t) (linesT t).length:=by unfold pI toI;rw [List.take_length]
theorem pS_to (t:List UInt8):pS t=toS (linesT t) (linesT t).length:=by unfold pS toS;rw [List.take_length]
set_option maxRecDepth 100000
def Za4 (w:World) (B base:Nat) (TA:Option Addr) (tc:Nat) (Ts:List Zaq) (AA:Option Addr) (ac:Nat) (as_:List Zaa) (X:List Nat) (a:Nat) (NA:Option Addr) (nc:Nat) (ns:List Zac) (bad:Int):Prop :=
 Own w B 99 [.slice TA Ts.length tc,.int .i64 a,.slice NA ns.length nc,.slice AA as_.length ac,.int .i64 bad]/\PMem w B base TA tc Ts AA ac as_ X NA nc ns
def PGo (B base:Nat) (TA:Option Addr) (tc:Nat) (Ts:List Zaq) (AA:Option Addr) (ac:Nat) (as_:List Zaa) (X:List Nat) (NA:Option Addr) (r:PR) (w:World) (e:Ending) (w':World):Prop :=
 match r with
 | .ok v a ns=>∃ NA' nc',e=.returned (.int .i64 v)/\Za4 w' B base TA tc Ts AA ac as_ X a NA' nc' ns (-1)/\Only w.heap.size (B::gOf NA) w w'/\(∀ x,x∈gOf NA'->x∈gOf NA∨w.heap.size<=x)
 | .bad o=>∃ (r:Int) (c0 c1 c2 c3:Value),e=.returned (.int .i64 r)/\Own w' B 99 [c0,c1,c2,c3,.int .i64 o]/\0<=o/\Only w.heap.size (B::gOf NA) w w'
 | .out=>False
section
variable {w w':World} {B base:Nat} {TA:Option Addr} {tc:Nat} {Ts:List Zaq} {AA:Option Addr} {ac:Nat} {as_:List Zaa} {X:List Nat} {NA:Option Addr} {nc:Nat} {ns:List Zac} {a:Nat} {bad:Int}
theorem Za4.step (hb:Below w.heap.size w w') (h:Za4 w B base TA tc Ts AA ac as_ X a NA nc ns bad):Za4 w' B base TA tc Ts AA ac as_ X a NA nc ns bad:=⟨h.1.step hb,h.2.step hb⟩
theorem Za4.alloc (h:Za4 w B base TA tc Ts AA ac as_ X a NA nc ns bad) (o:Obj):Za4 (w.alloc o) B base TA tc Ts AA ac as_ X a NA nc ns bad:=h.step ((Below.refl _ _).alloc (Nat.le_refl _) o)
theorem Za4.drew (h:Za4 w B base TA tc Ts AA ac as_ X a NA nc ns bad):Za4 w.drew B base TA tc Ts AA ac as_ X a NA nc ns bad:=⟨h.1.drew,h.2.drew⟩
theorem Za4.drewN (h:Za4 w B base TA tc Ts AA ac as_ X a NA nc ns bad) (n:Nat):Za4 (w.drewN n) B base TA tc Ts AA ac as_ X a NA nc ns bad:=⟨h.1.drewN n,h.2.keep (Nat.le_refl _) (λ_ _ _=>rfl)⟩
theorem Za4.setAt (h:Za4 w B base TA tc Ts AA ac as_ X a NA nc ns bad) (a':Nat):Za4 (w.setCell ⟨B,1,none⟩ (.int .i64 a')) B base TA tc Ts AA ac as_ X a' NA nc ns bad:=⟨h.1.set_ 1 _,h.2.set_ 1 _⟩
theorem Za4.setBad (h:Za4 w B base TA tc Ts AA ac as_ X a NA nc ns bad) (b':Int):Za4 (w.setCell ⟨B,4,none⟩ (.int .i64 b')) B base TA tc Ts AA ac as_ X a NA nc ns b':=⟨h.1.set_ 4 _,h.2.set_ 4 _⟩
theorem Za4.cells (h:Za4 w B base TA tc Ts AA ac as_ X a NA nc ns bad):B<w.heap.size/\w.cell? ⟨B,0,none⟩=some (.slice TA Ts.length tc)/\w.cell? ⟨B,1,none⟩=some (.int .i64 a)/\w.cell? ⟨B,2,none⟩=some (.slice NA ns.length nc)/\w.cell? ⟨B,3,none⟩=some (.slice AA as_.length ac)/\w.cell? ⟨B,4,none⟩=some (.int .i64 bad)/\∀ o,w.frozen? ⟨B,o,none⟩=false :=
 ⟨h.1.lt,h.1.cell 0,h.1.cell 1,h.1.cell 2,h.1.cell 3,h.1.cell 4,h.1.frozen⟩
end
theorem Zdi {B base:Nat} {TA:Option Addr} {tc:Nat} {Ts:List Zaq} {AA:Option Addr} {ac:Nat} {as_:List Zaa} {X:List Nat} {NA:Option Addr} {nc:Nat} {ns:List Zac} {a:Nat} {bad:Int} (w:World)
  (h:Za4 w B base TA tc Ts AA ac as_ X a NA nc ns bad) (ha:a<Ts.length) :
  Calls Tryz.prog 121 #[.pointer (some ⟨B,0,none⟩)] w λe w'=>e=.returned (str (pk Ts a))/\Below w.heap.size w w':=by
 obtain ⟨hB,h0,h1,_,_,_,_⟩:=h.cells
 obtain ⟨ht1,ht2,b,o,rfl,hb,hbB,t0,t1,t2,t3⟩:=h.2.tokAt ha
 unfold maxLen at ht2
 have ha':(a:Int)<Ts.length:=qo
 have hpk:=qh (pk Ts a=if kd Ts a=3 then tx Ts a else []) rfl
 generalize kd Ts a=k at *
 generalize tx Ts a=x at *
 generalize nm Ts a=n at *
 generalize of_ Ts a=f at *
 clear h
 by_cases hk:k=3
 ·subst hk
  have HP:=qh (pk Ts a=x) (by rw [hpk.out,if_pos rfl])
  go_enter Tryz.func121,Tryz.ntmps121
  go_wp2_with fail
  go_region_held3 (λw'=>w'.cell? ⟨B,0,none⟩=some (.slice (some ⟨b,o,none⟩) Ts.length tc)/\w'.cell? ⟨B,1,none⟩=some (.int .i64 a)/\w'.cell? ⟨b,o+a*4,none⟩=some (.int .i64 3)/\w'.cell? ⟨b,o+a*4+1,none⟩=some (str x)/\w'.cell? ⟨b,o+a*4+2,none⟩=some (.int .i64 n)/\w'.cell? ⟨b,o+a*4+3,none⟩=some (.int .i64 f))
   (first|((try dsimp only);refine ⟨?_, ?_, ?_, ?_, ?_, ?_⟩<;>(go_simp;done))|go_keep)
   (fail)
  all_goals
   go_wp2_with fail
   go_ret
   rw [HP.out]
   exact ⟨rfl,bll⟩
 ·have HP:=qh (pk Ts a=[]) (by rw [hpk.out,if_neg hk])
  have hk':(k==3)=false:=by simpa using hk
  go_enter Tryz.func121,Tryz.ntmps121
  go_wp2_with fail
  go_region_held3 (λw'=>w'.cell? ⟨B,0,none⟩=some (.slice (some ⟨b,o,none⟩) Ts.length tc)/\w'.cell? ⟨B,1,none⟩=some (.int .i64 a)/\w'.cell? ⟨b,o+a*4,none⟩=some (.int .i64 k)/\w'.cell? ⟨b,o+a*4+1,none⟩=some (str x)/\w'.cell? ⟨b,o+a*4+2,none⟩=some (.int .i64 n)/\w'.cell? ⟨b,o+a*4+3,none⟩=some (.int .i64 f))
   (first|((try dsimp only);refine ⟨?_, ?_, ?_, ?_, ?_, ?_⟩<;>(go_simp;done))|go_keep)
   (fail)
  all_goals
   go_wp2_with fail
   go_ret
   rw [HP.out]
   exact ⟨rfl,bll⟩
theorem Zci {B base:Nat} {TA:Option Addr} {tc:Nat} {Ts:List Zaq} {AA:Option Addr} {ac:Nat} {as_:List Zaa} {X:List Nat} {NA:Option Addr} {nc:Nat} {ns:List Zac} {a:Nat} (w:World)
  (h:Za4 w B base TA tc Ts AA ac as_ X a NA nc ns (-1)) (ha:a<Ts.length) :
  Calls Tryz.prog 60 #[.pointer (some ⟨B,0,none⟩)] w λe w'=>e=.returned (.int .i64 0)/\w'=(w.setCell ⟨B,4,none⟩ (.int .i64 (of_ Ts a))).drew:=by
 obtain ⟨hB,h0,h1,_,_,h4,hf⟩:=h.cells
 obtain ⟨ht1,ht2,b,o,rfl,hb,hbB,t0,t1,t2,t3⟩:=h.2.tokAt ha
 unfold maxLen at ht2
 have ha':(a:Int)<Ts.length:=qo
 generalize of_ Ts a=f at *
 clear h
 go_enter Tryz.func60,Tryz.ntmps60
 go_wp2_with fail
 go_still_tail 14,kr
 go_wp2_with fail
 go_ret
 exact ⟨rfl,rfl⟩
theorem S_l13Op (x:List UInt8) (add:Bool) (w:World):Calls Tryz.prog 175 #[str x,.bool add] w λe w'=>e=.returned (.int .i64 (opS add x))/\w=w':=by
 cases add with
 | true =>
  by_cases h1:x=[43]
  ·subst h1
   go_enter Tryz.func175,Tryz.ntmps175
   go_wp2_with fail
   go_ret
   exact ⟨rfl,rfl⟩
  ·by_cases h2:x=[45]
   ·subst h2
    go_enter Tryz.func175,Tryz.ntmps175
    go_wp2_with fail
    go_ret
    exact ⟨rfl,rfl⟩
   ·have e1:(x==[43])=false:=by simpa using h1
    have e2:(x==[45])=false:=by simpa using h2
    have HO:=qh (opS true x=0) (by simp [opS,h1,h2])
    clear h1 h2
    go_enter Tryz.func175,Tryz.ntmps175
    go_wp2_with fail
    go_ret
    rw [HO.out]
    exact ⟨rfl,rfl⟩
 | false =>
  by_cases h1:x=[42]
  ·subst h1
   go_enter Tryz.func175,Tryz.ntmps175
   go_wp2_with fail
   go_ret
   exact ⟨rfl,rfl⟩
  ·by_cases h2:x=[47]
   ·subst h2
    go_enter Tryz.func175,Tryz.ntmps175
    go_wp2_with fail
    go_ret
    exact ⟨rfl,rfl⟩
   ·have e1:(x==[42])=false:=by simpa using h1
    have e2:(x==[47])=false:=by simpa using h2
    have HO:=qh (opS false x=0) (by simp [opS,h1,h2])
    clear h1 h2
    go_enter Tryz.func175,Tryz.ntmps175
    go_wp2_with fail
    go_ret
    rw [HO.out]
    exact ⟨rfl,rfl⟩
def PExp (B base:Nat) (TA:Option Addr) (tc:Nat) (Ts:List Zaq) (AA:Option Addr) (ac:Nat) (as_:List Zaa) (X:List Nat) (a:Nat) (NA:Option Addr) (nc:Nat) (ns:List Zac) (ok:Bool) (w:World) (e:Ending) (w':World):Prop :=
 e=.returned (.bool ok)/\Only w.heap.size [B] w w'/\(ok=true->Za4 w' B base TA tc Ts AA ac as_ X (a+1) NA nc ns (-1))/\(ok=false->∃ c0 c1 c2 c3:Value,Own w' B 99 [c0,c1,c2,c3,.int .i64 (of_ Ts a)])
theorem Zgd {B base:Nat} {TA:Option Addr} {tc:Nat} {Ts:List Zaq} {AA:Option Addr} {ac:Nat} {as_:List Zaa} {X:List Nat} {NA:Option Addr} {nc:Nat} {ns:List Zac} {a:Nat} (x:List UInt8) (w:World)
  (h:Za4 w B base TA tc Ts AA ac as_ X a NA nc ns (-1)) (ha:a<Ts.length) (hs:Ts.length<=1048576) :
  Calls Tryz.prog 61 #[.pointer (some ⟨B,0,none⟩),str x] w (PExp B base TA tc Ts AA ac as_ X a NA nc ns (decide (pk Ts a=x)) w):=by
 have H:=hdQ h
 obtain ⟨hB,h0,h1,_,_,h4,hf⟩:=h.cells
 have HPK:=qh (CB_ Tryz.prog 121 #[.pointer (some ⟨B,0,none⟩)] w (str (pk Ts a))) (Zdi w h ha)
 have HFL:=qh (∀ wx,Below w.heap.size w wx->Calls Tryz.prog 60 #[.pointer (some ⟨B,0,none⟩)] wx λe w'=>e=.returned (.int .i64 0)/\w'=(wx.setCell ⟨B,4,none⟩ (.int .i64 (of_ Ts a))).drew) (λwx hb=>Zci wx (H.out.step hb) ha)
 clear h
 obtain ⟨y,hy⟩:=qv (pk Ts a)
 rw [hy] at HPK ⊢
 clear hy
 by_cases hx:y=x
 ·subst hx
  have hd:=qh (decide (y=y)=true) qs
  have e1:(y==y)=true:=qs
  have e2:(y != y)=false:=qs
  go_enter Tryz.func61,Tryz.ntmps61
  go_wp2_with (first|(go_at_call 121;refine HPK.out.mono ?_;rintro e w1 ⟨rfl,hb1⟩;have HS1:=hdQ (H.out.step hb1);have HO1:=qh (Only w.heap.size [B] w w1) (Only.of_below hb1 _);have hB1:B<w1.heap.size:=HS1.out.1.lt;have g1:=HS1.out.1.cell 1;have gf:=HS1.out.1.frozen;(try dsimp only [List.getElem?_cons_succ,List.getElem?_cons_zero] at g1);clear hb1)|fail)
  go_ret
  rw [hd.out]
  refine ⟨rfl,HO1.out.setCell qs _,λ_=>?_,λe=>by cases e⟩
  have:=HS1.out.setAt (a+1)
  simpa using this
 ·have hd:=qh (decide (y=x)=false) (by simp [hx])
  have e1:(y==x)=false:=by simpa using hx
  have e2:(y != x)=true:=by simpa using hx
  go_enter Tryz.func61,Tryz.ntmps61
  go_wp2_with (first|(go_at_call 121;refine HPK.out.mono ?_;rintro e w1 ⟨rfl,hb1⟩;have HB1:=hdQ hb1;have HS1:=hdQ (H.out.step hb1);have HO1:=qh (Only w.heap.size [B] w w1) (Only.of_below hb1 _);clear hb1)|(go_at_call 60;refine (HFL.out _ HB1.out).mono ?_;rintro e w2 ⟨rfl,rfl⟩)|fail)
  go_ret
  rw [hd.out]
  refine ⟨rfl,(HO1.out.setCell qs _).drew,(λe=>by cases e),λ_=>⟨_,_,_,_,(HS1.out.setBad _).1.drew⟩⟩
theorem S_l13Emit {B base:Nat} {TA:Option Addr} {tc:Nat} {Ts:List Zaq} {AA:Option Addr} {ac:Nat} {as_:List Zaa} {X:List Nat} {NA:Option Addr} {nc:Nat} {ns:List Zac} {a:Nat} {op num:Int} {name:List UInt8} {args:List Int} {A:Option Addr} {c:Nat} (w:World)
  (h:Za4 w B base TA tc Ts AA ac as_ (gOf A++X) a NA nc ns (-1)) (ha0:0<a) (ha:a<Ts.length) (hs:Ts.length<=1048576) (hT:∀ i,0<=of_ Ts i)
  (hr:Zbu w 1 A args.length c 3 (ints args)) (hap:∀ y,y∈gOf A->y∉X) :
  Calls Tryz.prog 176 #[.pointer (some ⟨B,0,none⟩),nodeV op name num (.slice A args.length c)] w (PGo B base TA tc Ts AA ac as_ X NA (emit Ts (op,name,num,args) a ns) w):=by
 have H:=hdQ h
 have HR:=hdQ hr
 have HAP:=hdQ hap
 obtain ⟨hB,h0,h1,h2,h3,h4,hf⟩:=h.cells
 have hbase:=h.2.low
 obtain ⟨a',rfl⟩:∃ a',a=a'+1:=⟨a-1,qo⟩
 have HFL:=qh (∀ wx,Za4 wx B base TA tc Ts AA ac as_ (gOf A++X) a' NA nc ns (-1)->Calls Tryz.prog 60 #[.pointer (some ⟨B,0,none⟩)] wx λe w'=>e=.returned (.int .i64 0)/\w'=(wx.setCell ⟨B,4,none⟩ (.int .i64 (of_ Ts a'))).drew) (λwx hx=>Zci wx hx qo)
 have hBw:¬ B=w.heap.size:=qo
 have hBw':¬ w.heap.size=B:=qo
 clear h hr hap
 by_cases h60:ns.length=60
 ·have HE:=qh (emit Ts (op,name,num,args) (a'+1) ns=.bad (of_ Ts a')) (by unfold emit;rw [if_pos h60];rfl)
  have HT:=hdQ (hT a')
  have h60':(ns.length:Int)=60:=qo
  have e60:((ns.length:Int)==60)=true:=by simpa using h60'
  have HA:=qh (∀ o,Za4 ((w.setCell ⟨B,1,none⟩ (.int .i64 (a':Int))).alloc o) B base TA tc Ts AA ac as_ (gOf A++X) a' NA nc ns (-1)) (λo=>(H.out.setAt a').step ((Below.refl _ _).alloc (Nat.le_refl _) o))
  clear hT h60' h60
  go_enter Tryz.func176,Tryz.ntmps176
  go_wp2_with (first|(go_at_call 60;refine (HFL.out _ (HA.out _)).mono ?_;rintro e w2 ⟨rfl,rfl⟩)|fail)
  go_ret
  rw [HE.out]
  exact ⟨0,_,_,_,_,rfl,(Za4.drew (Za4.alloc ((H.out.setAt a').setBad _) _)).1,HT.out,(Only.al (((Only.refl _ _ _).setCell qs _).setCell qs _) qs _).drew⟩
 ·have HE:=qh (emit Ts (op,name,num,args) (a'+1) ns=.ok ns.length (a'+1) (ns++[(op,name,num,args)])) (by unfold emit;rw [if_neg h60])
  have e60:((ns.length:Int)==60)=false:=by rw [beq_eq_false_iff_ne];omega
  obtain ⟨cs,hg,hn,hpc⟩:=H.out.2.nod
  have HPC:=hdQ hpc
  have HG:=hdQ hg
  have HN:=hdQ hn
  have HLT:=qh (ns.length<60) (by have:=H.out.2.cap;omega)
  have hns:=H.out.2.cap
  clear hg hn hT h60 hpc
  go_enter Tryz.func176,Tryz.ntmps176
  go_wp2_with fail
  refine Zcw (S:=(λw'=>w'.cell? ⟨B,2,none⟩=some (.slice NA ns.length nc)/\w'.frozen? ⟨B,2,none⟩=false/\w'.cell? ⟨w.heap.size,0,none⟩=some (.int .i64 op)/\w'.cell? ⟨w.heap.size,1,none⟩=some (str name)/\w'.cell? ⟨w.heap.size,2,none⟩=some (.int .i64 num)/\w'.cell? ⟨w.heap.size,3,none⟩=some (.slice A args.length c))) 12 kr (by (try dsimp only);refine ⟨?_, ?_, ?_, ?_, ?_, ?_⟩<;>(go_simp;done)) (λhHeld=>?_)
  refine tkM 0 ?_
  refine tkM 1 ?_
  refine tkM 2 ?_
  refine tkM 3 ?_
  refine tkM 4 ?_
  refine tkM 5 ?_
  refine tkM 6 ?_
  refine Zag (i:=7) rfl kr (λK7 hK7=>?_)
  go_simp
  refine hK7.out _ _ (λ_=>by (try dsimp only);refine ⟨?_, ?_, ?_, ?_, ?_, ?_⟩<;>(go_simp;done)) (λhHeld7=>?_)
  have hX7:=hHeld7 qd
  refine Zag (i:=8) rfl kr (λK8 hK8=>?_)
  (refine Zea qr _ _ 59 qr (base) 155 (.agg #[.int .i64 0,.string ByteArray.empty,.int .i64 0,.slice none 0 0]) 4 56 Tryz.underlying59 T.infoNode rfl qd (xs:=cs) qr ?_ (ys:=[.int .i64 op,str name,.int .i64 num,.slice A args.length c]) qr ?_ (node_one _ _ _ _) ?_ ?_ ?_ ?_;(exact (gwx HG.out));(exact (ltt 1));(unfold maxLen;omega);(omega);(first|omega|(simp<;>omega));rintro A' c' w2 gA)
  have hsa:=gA.2.2.2.1
  (try simp at hsa)
  have hem:=PMem.put H.out.2 HLT.out bll HG.out HN.out HPC.out HR.out HAP.out gA
  have hbx2:Box w2 w.heap.size [.int .i64 op,str name,.int .i64 num,.slice A args.length c]:=by
   have hfa:=(Za5.far gA (b:=w.heap.size) (by simp;try omega) (λe=>by have:=HG.out.lt _ e;omega)).1
   refine Box.mk4 qo ?_ ?_ ?_ ?_<;>(rw [hfa];go_simp;done)
  have ho2:Own w2 B 99 [.slice TA Ts.length tc,.int .i64 ((a'+1:Nat):Int),.slice NA ns.length nc,.slice AA as_.length ac,.int .i64 (-1)]:=hem.2.1.own H.out.1 hB (λhN=>(H.out.2.apN B hN).1 rfl)
  have HO2:=hdQ ho2
  have HE2:=hdQ hem
  have k2:=ho2.cell 2
  have kf:=ho2.frozen 2
  (try dsimp only [List.getElem?_cons_succ,List.getElem?_cons_zero] at k2)
  obtain ⟨zb2,e0,e1,e2,e3⟩:=hbx2.open4
  have hBw2:B<w2.heap.size:=qo
  clear gA hem ho2 hbx2
  refine hK8.out _ _ (λ_=>by (try dsimp only);refine ⟨?_, ?_, ?_, ?_, ?_, ?_⟩<;>(go_simp;done)) (λhHeld8=>?_)
  have hX8:=hHeld8 qd
  refine Zag (i:=9) rfl kr (λK9 hK9=>?_)
  go_simp
  refine hK9.out _ _ (λ_=>hX8) (λhHeld9=>?_)
  have hX9:=hHeld9 qd
  refine Zag (i:=10) rfl kr (λK10 hK10=>?_)
  go_simp
  refine hK10.out _ _ (λ_=>hX9) (λhHeld10=>?_)
  have hX10:=hHeld10 qd
  refine Zag (i:=11) rfl kr (λK11 hK11=>?_)
  go_simp
  refine hK11.out _ _ (λ_=>hX10) (λhHeld11=>?_)
  have hX11:=hHeld11 qd
  refine Zag (i:=12) rfl kr (λK12 hK12=>?_)
  go_simp
  refine hK12.out _ _ (λh=>absurd rfl h) (λhHeld12=>?_)
  refine Zcx kr ?_ _
  have hst:Za4 (w2.setCell ⟨B,2,none⟩ (.slice A' (ns.length+1) c')) B base TA tc Ts AA ac as_ X (a'+1) A' c' (ns++[(op,name,num,args)]) (-1):=⟨by have:=HO2.out.set_ 2 (.slice A' (ns.length+1) c');simpa using this,HE2.out.1.set_ 2 _⟩
  have HST:=hdQ hst
  have HON:=qh (Only w.heap.size (B::gOf NA) w (w2.setCell ⟨B,2,none⟩ (.slice A' (ns.length+1) c'))) (Only.setCell (HE2.out.2.1.mono' (λx hx=>by simp [hx])) qs _)
  have m2:=hst.cells.2.2.2.1
  have mB:=hst.cells.1
  have hl:(ns++[(op,name,num,args)]).length=ns.length+1:=qs
  rw [hl] at m2
  generalize w2.setCell ⟨B,2,none⟩ (.slice A' (ns.length+1) c')=w3 at *
  clear hst hX8 hX9 hX10 hX11 hHeld k2 kf e0 e1 e2 e3 hl
  go_wp2_with fail
  go_ret
  rw [HE.out]
  exact ⟨_,_,rfl,HST.out,HON.out,HE2.out.2.2⟩
end Go.Proofs.YticdknjoapdmeaaGreatDoor
