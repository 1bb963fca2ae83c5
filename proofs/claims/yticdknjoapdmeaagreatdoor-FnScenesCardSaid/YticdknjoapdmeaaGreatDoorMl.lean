/- Several texts in one: Draw14b, Filter, Draws, DrawScn, DrawScn2, DrawScn3, LawH, FnScL. -/
import Derived.Test.YticdknjoapdmeaaGreatDoorMa
import Derived.Test.YticdknjoapdmeaaGreatDoorMk
import Derived.Test.YticdknjoapdmeaaGreatDoorMg
import Derived.Test.YticdknjoapdmeaaGreatDoorMe
import Derived.Test.YticdknjoapdmeaaGreatDoorMi
import Derived.Test.YticdknjoapdmeaaGreatDoorMc
import Derived.LaidLaws
import Derived.LaidHandle
import Derived.Stop.Joined
import Derived.Handed
import Derived.SevenTiedAt
import Derived.SizedLaws
import Derived.Stop.LaidErr
import Derived.Test.YticdknjoapdmeaaGreatDoorTie
import Derived.Test.YticdknjoapdmeaaGreatDoorCards
import Derived.Test.YticdknjoapdmeaaGreatDoorMj
import Derived.BigRegion
set_option linter.unusedVariables false
set_option linter.unusedSimpArgs false
set_option linter.unnecessarySimpa false
namespace Go.Proofs.YticdknjoapdmeaaGreatDoor
set_option maxHeartbeats 32000000
section
set_option maxRecDepth 100000
open Go.RowKit Go.Lib
theorem Zu5 {g c:Nat} {A:OA} {l:List Int} (w:World) (h:Cur 125 w g A c l) :
  CL 207 #[.pointer (some ⟨g,0,none⟩)] w λe w'=>∃ s,e=.returned (str s)/\PU 38 3 300 32 s/\Cur 125 w' g A c l/\Only w.heap.size [g] w w':=by
 have hgl:=h.lt
 have HC:=hdQ h
 clear h
 have b1:bW 1=4/\bW 2=10/\bW 3=22:=⟨rfl,rfl,rfl⟩
 have c1:cB 1=22/\cB 2=58/\cB 3=130:=⟨rfl,rfl,rfl⟩
 go_enter Tryz.func207,Tryz.ntmps207
 go_wp2_with fail
 refine (Zk9 (n:=2) _ HC.out qo).mono ?_
 rintro e w1 ⟨b,rfl,hc,hO⟩
 have HC1:=hdQ hc
 have HO1:=hdQ hO
 clear hc hO
 cases b with
 | false =>
  have t0:¬ 9223372036854775807<0+8:=qo
  go_wp2_with fail
  refine (Zih 3 qo 3 _ HC1.out qo qo).mono ?_
  rintro e w3 ⟨t,rfl,ht,hc,hO⟩
  have htl:=ht.len
  have HC3:=hdQ hc
  have HO3:=hdQ (HO1.out.then_ hO)
  have HT:=hdQ ht
  have t1:¬ 9223372036854775807<0+8+t.length:=qo
  clear hc hO ht
  have HE:=qh ((({ data := #[] }:ByteArray)++{ data := #[99,111,108,111,114,32,61,32] })++{ data:=t.toArray }={ data:=(([99,111,108,111,114]++[32,61,32])++t).toArray }) (by
   show ((({ data:=([]:List UInt8).toArray }:ByteArray)++{ data:=[99,111,108,111,114,32,61,32].toArray })++{ data:=t.toArray })=_
   rw [Zad,Zad];rfl)
  have HU:=qh (PU 34 2 211 32 (([99,111,108,111,114]++[32,61,32])++t++[59,10])) ((PU.snoc (PU.nil 32) (x:=[99,111,108,111,114]) qd HT.out qo qo).mono qo qo (by simp;omega))
  obtain ⟨u,hu⟩:=qv (([99,111,108,111,114]++[32,61,32])++t)
  have hu0:u[0]? = some 99:=by rw [<- hu];rfl
  have hul:u.length<=300:=by rw [<- hu];simp;omega
  rw [hu] at HE HU
  have u1:¬ 9223372036854775807<u.length+2:=qo
  have HIX:=qh (∀ wx:World,(Instr.index 9 (.string { data:=u.toArray }) (.int .i64 0)).run Tryz.prog wx=.ok (.int .u8 99) wx) (λwx=>by
   obtain ⟨r,hr⟩:∃ r,u=99::r:=by
    cases u with
    | nil=>cases hu0
    | cons a r=>simp at hu0;subst hu0;exact ⟨r,rfl⟩
   rw [hr];simp [go_sem];rfl)
  have HF:=qh ((({ data:=u.toArray }:ByteArray)++{ data := #[59,10] })={ data:=(u++[59,10]).toArray }) (by
   show ((({ data:=u.toArray }:ByteArray)++{ data:=[59,10].toArray }))=_
   rw [Zad])
  clear hu
  obtain ⟨v,hv⟩:=qv (u++[59,10])
  rw [hv] at HF HU
  have HU2:=HU
  clear hv
  have hvl:v.length<=211:=HU2.out.len
  have he:=HE.out
  have hf:=HF.out
  have hix:=HIX.out
  go_wp2_with fail
  clear he hf hix
  refine (Zk9 (n:=3) _ HC3.out qo).mono ?_
  rintro e w4 ⟨b,rfl,hc,hO⟩
  have HC4:=hdQ hc
  have HO4:=hdQ (HO3.out.then_ hO)
  clear hc hO
  cases b with
  | false =>
   go_wp2_with fail
   go_ret
   exact ⟨v,rfl,HU2.out.mono qo qo qo,HC4.out,HO4.out⟩
  | true =>
   have v0:¬ 9223372036854775807<v.length+8:=qo
   go_wp2_with fail
   refine (Zih 1 qo 1 _ HC4.out qo qo).mono ?_
   rintro e w5 ⟨z,rfl,hz,hc,hO⟩
   have hzl:=hz.len
   have HC5:=hdQ hc
   have HO5:=hdQ (HO4.out.then_ hO)
   have HZ:=hdQ hz
   have v1:¬ 9223372036854775807<v.length+8+z.length:=qo
   have v2:¬ 9223372036854775807<v.length+8+z.length+2:=qo
   clear hc hO hz
   go_wp2_with fail
   go_ret
   refine ⟨v++([97,108,112,104,97]++[32,61,32])++z++[59,10], ?_,(PU.snoc HU2.out (x:=[97,108,112,104,97]) qd HZ.out qo qo).mono qo qo (by simp;omega),HC5.out,HO5.out⟩
   show Ending.returned (Value.string (((({ data:=v.toArray }:ByteArray)++{ data:=[97,108,112,104,97,32,61,32].toArray })++{ data:=z.toArray })++{ data:=[59,10].toArray }))=_
   rw [Zad,Zad,Zad];rfl
 | true =>
  go_wp2_with fail
  refine (Zih 2 qo 2 _ HC1.out qo qo).mono ?_
  rintro e w2 ⟨x,rfl,hx,hc,hO⟩
  have hxl:=hx.len
  have HC2:=hdQ hc
  have HO2:=hdQ (HO1.out.then_ hO)
  have a0:¬ 9223372036854775807<4+x.length:=qo
  have a1:¬ 9223372036854775807<4+x.length+2:=qo
  have HXE:=qh ((({ data := #[107,32,61,32] }:ByteArray)++{ data:=x.toArray })++{ data := #[59,10] }={ data:=(([107]++[32,61,32])++x++[59,10]).toArray }) (by
   show ((({ data:=[107,32,61,32].toArray }:ByteArray)++{ data:=x.toArray })++{ data:=[59,10].toArray })=_
   rw [Zad,Zad];rfl)
  have HPX:=qh (PU 10 1 64 32 (([107]++[32,61,32])++x++[59,10])) ((PU.snoc (PU.nil 32) (x:=[107]) qd hx qo qo).mono qo qo (by simp;omega))
  have HS7:=qh (∃ r,([107]++[32,61,32])++x++[59,10]=107::r) ⟨_,rfl⟩
  clear hc hO hx
  obtain ⟨s,hs⟩:=qv (([107]++[32,61,32])++x++[59,10])
  rw [hs] at HXE HPX HS7
  clear hs
  have hsl:s.length<=64:=HPX.out.len
  have hxe:=HXE.out
  have t0:¬ 9223372036854775807<s.length+8:=qo
  go_wp2_with fail
  refine (Zih 3 qo 3 _ HC2.out qo qo).mono ?_
  rintro e w3 ⟨t,rfl,ht,hc,hO⟩
  have htl:=ht.len
  have HC3:=hdQ hc
  have HO3:=hdQ (HO2.out.then_ hO)
  have HT:=hdQ ht
  have t1:¬ 9223372036854775807<s.length+8+t.length:=qo
  clear hc hO ht
  have HE:=qh ((({ data:=s.toArray }:ByteArray)++{ data := #[99,111,108,111,114,32,61,32] })++{ data:=t.toArray }={ data:=(s++([99,111,108,111,114]++[32,61,32])++t).toArray }) (by
   show ((({ data:=s.toArray }:ByteArray)++{ data:=[99,111,108,111,114,32,61,32].toArray })++{ data:=t.toArray })=_
   rw [Zad,Zad];rfl)
  obtain ⟨s',hs'⟩:=HS7.out
  have HU:=qh (PU 34 2 211 32 (s++([99,111,108,111,114]++[32,61,32])++(t++[32,43,32]++[107])++[59,10])) ((PU.snoc HPX.out (x:=[99,111,108,111,114]) qd (TX.bin14 43 (by unfold OpT;simp) qd HT.out ((TX.name (s:=[107]) qd).mono (Nat.le_refl _) (Nat.zero_le _) (Nat.le_refl _))) qo qo).mono qo qo (by simp;omega))
  obtain ⟨u,hu⟩:=qv (s++([99,111,108,111,114]++[32,61,32])++t)
  have hu0:u[0]? = some 107:=by rw [<- hu,hs'];rfl
  have hul:u.length<=300:=by rw [<- hu];simp;omega
  have HU2:=qh (PU 34 2 211 32 (u++[32,43,32,107]++[59,10])) (by rw [<- hu];have:=HU.out;simpa using this)
  rw [hu] at HE
  have u1:¬ 9223372036854775807<u.length+4:=qo
  have u2:¬ 9223372036854775807<u.length+4+2:=qo
  have HIX:=qh (∀ wx:World,(Instr.index 9 (.string { data:=u.toArray }) (.int .i64 0)).run Tryz.prog wx=.ok (.int .u8 107) wx) (λwx=>by
   obtain ⟨r,hr⟩:∃ r,u=107::r:=by
    cases u with
    | nil=>cases hu0
    | cons a r=>simp at hu0;subst hu0;exact ⟨r,rfl⟩
   rw [hr];simp [go_sem];rfl)
  have HF:=qh ((({ data:=u.toArray }:ByteArray)++{ data := #[32,43,32,107] })++{ data := #[59,10] }={ data:=(u++[32,43,32,107]++[59,10]).toArray }) (by
   show ((({ data:=u.toArray }:ByteArray)++{ data:=[32,43,32,107].toArray })++{ data:=[59,10].toArray })=_
   rw [Zad,Zad])
  clear hu hs' HU
  obtain ⟨v,hv⟩:=qv (u++[32,43,32,107]++[59,10])
  rw [hv] at HF HU2
  clear hv
  have hvl:v.length<=211:=HU2.out.len
  have he:=HE.out
  have hf:=HF.out
  have hix:=HIX.out
  go_wp2_with fail
  clear he hf hix
  refine (Zk9 (n:=3) _ HC3.out qo).mono ?_
  rintro e w4 ⟨b,rfl,hc,hO⟩
  have HC4:=hdQ hc
  have HO4:=hdQ (HO3.out.then_ hO)
  clear hc hO
  cases b with
  | false =>
   go_wp2_with fail
   go_ret
   exact ⟨v,rfl,HU2.out.mono qo qo qo,HC4.out,HO4.out⟩
  | true =>
   have v0:¬ 9223372036854775807<v.length+8:=qo
   go_wp2_with fail
   refine (Zih 1 qo 1 _ HC4.out qo qo).mono ?_
   rintro e w5 ⟨z,rfl,hz,hc,hO⟩
   have hzl:=hz.len
   have HC5:=hdQ hc
   have HO5:=hdQ (HO4.out.then_ hO)
   have HZ:=hdQ hz
   have v1:¬ 9223372036854775807<v.length+8+z.length:=qo
   have v2:¬ 9223372036854775807<v.length+8+z.length+2:=qo
   clear hc hO hz
   go_wp2_with fail
   go_ret
   refine ⟨v++([97,108,112,104,97]++[32,61,32])++z++[59,10], ?_,(PU.snoc HU2.out (x:=[97,108,112,104,97]) qd HZ.out qo qo).mono qo qo (by simp;omega),HC5.out,HO5.out⟩
   show Ending.returned (Value.string (((({ data:=v.toArray }:ByteArray)++{ data:=[97,108,112,104,97,32,61,32].toArray })++{ data:=z.toArray })++{ data:=[59,10].toArray }))=_
   rw [Zad,Zad,Zad];rfl
def GoodP (p:Zag):Prop:=Za3 p=true/\RT p/\ProgN p
def OutGood (g:Nat) (A:OA) (c:Nat) (l:List Int) (w:World) (e:Ending) (w':World):Prop :=
 ∃ (p:Zag) (NA AA:OA) (nc ac b:Nat),e=.returned (Zbz NA p.1.length nc AA p.2.length ac)/\GoodP p/\w.heap.size<=b/\b<=w'.heap.size/\Zcb w' b NA nc p.1 AA ac p.2/\Cur 125 w' g A c l/\Only w.heap.size [g] w w'
theorem S_good14 {g c:Nat} {A:OA} {l:List Int} (w:World) (h:Cur 125 w g A c l) :
  CL 147 #[.pointer (some ⟨g,0,none⟩)] w (OutGood g A c l w):=by
 have hgl:=h.lt
 have HC:=hdQ h
 clear h
 have HX0:=qh (Own (w.alloc (.cells #[.slice none 0 0,.slice none 0 0] 62)) w.heap.size 62 [.slice none 0 0,.slice none 0 0]) (Own.new w _ #[_,_])
 go_enter Tryz.func147,Tryz.ntmps147
 go_wp2_with fail
 go_loopw [3] (λi_ wr=>∃ k:Nat,k<=20/\i_=.int .i64 k/\Own wr w.heap.size 62 [.slice none 0 0,.slice none 0 0]/\Cur 125 wr g A c l/\Only w.heap.size [g] w wr) (λi_ _=>20-(RowKit.intOf i_).toNat)
 case atStart=>exact ⟨0,Nat.zero_le _,rfl,HX0.out,HC.out.alloc _,Only.alloc (Only.refl _ _ _) (Nat.le_refl _) _⟩
 case round =>
  obtain ⟨k,hk,rfl,hx,hc,hO⟩:=hrel
  have HXr:=hdQ hx
  have HCr:=hdQ hc
  have HOr:=hdQ hO
  have hzr:=hO.size
  have hxl:=hx.lt
  clear hx hc hO HX0
  by_cases hlt:k<20
  ·have i1:(k:Int)<20:=by omega
   go_wp2_with fail
   refine (Zu5 _ HCr.out).mono ?_
   rintro e w1 ⟨s,rfl,hs,hc,hO⟩
   have hz1:=hO.size
   obtain ⟨p,hp,hrt⟩:=hs.parse qo qo qo
   have hsl:=hs.len
   have HN:=hdQ (Zw2 (src:=s) qo)
   have HC1:=hdQ hc
   have HO1:=hdQ (HOr.out.then_ hO)
   have HX1:=hdQ (hO.own HXr.out qo (by simp;omega))
   have HRT:=hdQ hrt
   have HPS:=qh (∀ wx,CL 21 #[str s] wx (Zbo s wx)) (λwx=>Zyc wx qo)
   unfold Zbo at HPS
   rw [hp] at HPS HN
   clear hc hO hs hp hrt
   go_wp2_with fail
   refine (HPS.out _).mono ?_
   rintro e w2 ⟨NA,nc,AA,ac,rfl,hpm,hb⟩
   have hz2:=hb.size
   have HPM:=hdQ hpm
   have HC2:=hdQ (HC1.out.step hb)
   have HO2:=qh (Only w.heap.size [g] w w2) (HO1.out.trans (Only.of_below hb []) (by have:=HO1.out.size;omega) qs)
   have HX2:=hdQ (Own.step hb HX1.out)
   have HPN:=HN.out
   have h60:=hpm.2.2.2.1
   have has:=hpm.2.2.2.2
   have HIN:=qh (∀ wx,Bw w2 wx->Zcd wx NA nc AA ac p) (λwx hb=>(hpm.keep (λx _ hx=>hb.block x hx)).in_ (λx hx=>by have:=HPN.1 x hx;unfold maxLen;omega) (λx hx=>by have:=HPN.2.1 x hx;unfold maxLen;omega))
   have HCK:=qh (∀ wx,Bw w2 wx->CL 124 #[Zbz NA p.1.length nc AA p.2.length ac] wx (Zjz (Za3 p) wx)) (λwx hb=>S_Check wx (HIN.out wx hb) qo has)
   have HBX:=qh (Own (w2.alloc (.cells #[.slice NA p.1.length nc,.slice AA p.2.length ac] 62)) w2.heap.size 62 [.slice NA p.1.length nc,.slice AA p.2.length ac]) (Own.new w2 _ #[_,_])
   clear hpm hb
   go_wp2_with fail
   refine (HCK.out _ bll).mono ?_
   rintro e w3 ⟨⟨x,y,rfl,hxy⟩,hb3⟩
   have hz3:=hb3.size
   (try simp at hz3)
   have HP3:=hdQ (Own.step hb3 HBX.out)
   have HX3:=hdQ (Own.step hb3 (HX2.out.alloc _))
   have HC3:=hdQ ((HC2.out.alloc _).step hb3)
   have HB3:=bh w2 hb3
   have HM3:=qh (Zcb w3 w1.heap.size NA nc p.1 AA ac p.2) (HPM.out.keep (λq _ hq=>HB3.out.block q hq))
   have HO3:=qh (Only w.heap.size [g] w w3) (HO2.out.trans (Only.of_below HB3.out []) (by have:=HO2.out.size;omega) qs)
   have p0:=HP3.out.cell 0
   have p1:=HP3.out.cell 1
   have pf:=HP3.out.frozen
   have x0:=HX3.out.cell 0
   have x1:=HX3.out.cell 1
   have xf:=HX3.out.frozen
   simp only [List.getElem?_cons_zero,List.getElem?_cons_succ] at p0 p1 x0 x1
   have HXY:=hdQ hxy
   clear hb3 hxy
   by_cases hx0:x=0
   ·subst hx0
    have hgood:Za3 p=true:=by rw [<- HXY.out];rfl
    have hlt1:w.heap.size<w3.heap.size:=by have:=HX3.out.lt;omega
    have hne:¬ w2.heap.size=w.heap.size:=qo
    go_wp2_with fail
    have HXF:=qh (Own ((w3.setCell ⟨w.heap.size,0,none⟩ (.slice NA p.1.length nc)).setCell ⟨w.heap.size,1,none⟩ (.slice AA p.2.length ac)) w.heap.size 62 [.slice NA p.1.length nc,.slice AA p.2.length ac]) ((HX3.out.set_ 0 _).set_ 1 _)
    have q0:=HXF.out.cell 0
    have q1:=HXF.out.cell 1
    simp only [List.getElem?_cons_zero,List.getElem?_cons_succ] at q0 q1
    refine bodyPost_ret (v:=Zbz NA p.1.length nc AA p.2.length ac) (by simp [results,Tryz.results147,go_sem, *]) rfl ?_
    have hb1:=HO1.out.size
    refine ⟨p,NA,AA,nc,ac,w1.heap.size,rfl,⟨hgood,HRT.out,HN.out⟩,hb1,by simp;omega,HM3.out.keep (λq hq _=>(Below.heap_setCell _ _ _ q (by show q≠w.heap.size;omega)).trans (Below.heap_setCell _ _ _ q (by show q≠w.heap.size;omega))),(HC3.out.far (p:=⟨w.heap.size,0,none⟩) (by show g<w.heap.size;omega) _).far (p:=⟨w.heap.size,1,none⟩) (by show g<w.heap.size;omega) _,(HO3.out.up (p:=⟨w.heap.size,0,none⟩) (Nat.le_refl _) _).up (p:=⟨w.heap.size,1,none⟩) (Nat.le_refl _) _⟩
   ·have hx0':(x==0)=false:=by rw [beq_eq_false_iff_ne];exact hx0
    go_wp2_with fail
    go_roundw
    case rel=>exact ⟨k+1,qo,qg,HX3.out,HC3.out,HO3.out⟩
    case measure=>exact qn
  ·have i1:¬ (k:Int)<20:=by omega
   obtain ⟨p,hp,hrt,hgood⟩:=Zug
   have HN:=hdQ (Zw2 (src:=[99,111,108,111,114,32,61,32,117,59]) qd)
   have HPS:=qh (∀ wx,CL 21 #[.string ⟨#[99,111,108,111,114,32,61,32,117,59]⟩] wx (Zbo [99,111,108,111,114,32,61,32,117,59] wx)) (λwx=>Zyc (src:=[99,111,108,111,114,32,61,32,117,59]) wx qd)
   unfold Zbo at HPS
   rw [hp] at HPS HN
   clear hp
   go_wp2_with fail
   refine (HPS.out _).mono ?_
   rintro e w2 ⟨NA,nc,AA,ac,rfl,hpm,hb⟩
   have hz2:=hb.size
   have HPM:=hdQ hpm
   have HC2:=hdQ (HCr.out.step hb)
   have HO2:=qh (Only w.heap.size [g] w w2) (HOr.out.trans (Only.of_below hb []) qo qs)
   have HX2:=hdQ ((Own.step hb HXr.out).alloc (.cells #[.slice NA p.1.length nc,.slice AA p.2.length ac] 62))
   have HBX:=qh (Own (w2.alloc (.cells #[.slice NA p.1.length nc,.slice AA p.2.length ac] 62)) w2.heap.size 62 [.slice NA p.1.length nc,.slice AA p.2.length ac]) (Own.new w2 _ #[_,_])
   have HX20:=Own.step hb HXr.out
   have x0:=HX20.cell 0
   have x1:=HX20.cell 1
   have xf:=HX20.frozen
   have xl:=HX20.lt
   simp only [List.getElem?_cons_zero,List.getElem?_cons_succ] at x0 x1
   have hne2:¬ w.heap.size=w2.heap.size:=qo
   clear HX20
   have hne:¬ w2.heap.size=w.heap.size:=qo
   have hzw:w.heap.size<w2.heap.size:=qo
   clear hpm hb
   go_wp2_with fail
   have HXF:=qh (Own (((w2.alloc (.cells #[.slice NA p.1.length nc,.slice AA p.2.length ac] 62)).setCell ⟨w.heap.size,0,none⟩ (.slice NA p.1.length nc)).setCell ⟨w.heap.size,1,none⟩ (.slice AA p.2.length ac)) w.heap.size 62 [.slice NA p.1.length nc,.slice AA p.2.length ac]) ((HX2.out.set_ 0 _).set_ 1 _)
   have q0:=HXF.out.cell 0
   have q1:=HXF.out.cell 1
   simp only [List.getElem?_cons_zero,List.getElem?_cons_succ] at q0 q1
   refine bodyPost_ret (v:=Zbz NA p.1.length nc AA p.2.length ac) (by simp [results,Tryz.results147,go_sem, *]) rfl ?_
   refine ⟨p,NA,AA,nc,ac,wr.heap.size,rfl,⟨hgood,hrt,HN.out⟩,hzr,by simp;omega,HPM.out.keep (λq hq hl=>(Below.heap_alloc _ _ q (by simpa using hl)).trans ((Below.heap_setCell _ ⟨w.heap.size,1,none⟩ _ q (by show q≠w.heap.size;omega)).trans (Below.heap_setCell _ ⟨w.heap.size,0,none⟩ _ q (by show q≠w.heap.size;omega)))),((HC2.out.far (p:=⟨w.heap.size,0,none⟩) (by show g<w.heap.size;omega) _).far (p:=⟨w.heap.size,1,none⟩) (by show g<w.heap.size;omega) _).alloc _,((HO2.out.up (p:=⟨w.heap.size,0,none⟩) (Nat.le_refl _) _).up (p:=⟨w.heap.size,1,none⟩) (Nat.le_refl _) _).alloc (by simp;omega) _⟩
end
section
open Go.ChangeShapes Go.WideShapes Go.ChangeAt Go.RowKit
end
section
set_option maxRecDepth 100000
open Go.RowKit
theorem Zx2 {g c:Nat} {A:OA} {l:List Int} {n:Int} (w:World) (h:Cur 125 w g A c l) (hn:1<=n/\n<=256) :
  CL 104 #[.pointer (some ⟨g,0,none⟩),.int .i64 n] w λe w'=>∃ b:Bool,e=.returned (.bool b)/\Cur 125 w' g A c l/\Only w.heap.size [g] w w':=by
 have HC:=hdQ h
 clear h
 go_enter Tryz.func104,Tryz.ntmps104
 go_wp2_with fail
 refine (Zaw _ HC.out hn).mono ?_
 rintro e w1 ⟨x,rfl,x0,x1,hc,hO⟩
 have HCC:=hdQ hc
 have HO:=hdQ hO
 clear hc hO
 go_wp2
 go_ret
 exact ⟨_,rfl,HCC.out,HO.out⟩
theorem Zqe {g c:Nat} {A:OA} {l:List Int} (w:World) (h:Cur 125 w g A c l) :
  CL 145 #[.pointer (some ⟨g,0,none⟩)] w λr w'=>∃ (a b:Nat) (x y:Int) (e:Bool) (u v:Int),r=.returned (Zb2 a b x y e u v)/\(2<=a/\a<=5)/\(2<=b/\b<=5)/\Za4 a b x y u v=true/\Cur 125 w' g A c l/\Only w.heap.size [g] w w':=by
 have hgl:=h.lt
 have HC:=hdQ h
 clear h
 have HK:Hid (Own (w.alloc (.cells #[.int .i64 0,.int .i64 0,.int .i64 0,.int .i64 0,.bool false,.int .i64 0,.int .i64 0] 23)) w.heap.size 23 [.int .i64 0,.int .i64 0,.int .i64 0,.int .i64 0,.bool false,.int .i64 0,.int .i64 0]):=Own.new _ _ _
 go_enter Tryz.func145,Tryz.ntmps145
 go_wp2_with fail
 refine (Zaw (n:=4) _ (HC.out.alloc _) qo).mono ?_
 rintro e w1 ⟨x1,rfl,a1,b1,hc1,hO1⟩
 have hz1:=hO1.size
 (try simp at hz1)
 have HC1:=hdQ hc1
 have HO1:=hdQ (Only.trans (Only.alloc (Only.refl w.heap.size [g] w) (Nat.le_refl _) _) hO1 omm (λx hx=>hx))
 have HK1:=hdQ (hO1.own HK.out omm (by simp;omega))
 clear hc1 hO1
 obtain ⟨n1,rfl⟩:=Int.eq_ofNat_of_zero_le a1
 have y1':IntKind.i64.wrap (2+(n1:Int))=2+(n1:Int):=IntWalk.i64_in _ qo
 go_wp2_with fail
 refine (Zaw (n:=4) _ HC1.out qo).mono ?_
 rintro e w2 ⟨x2,rfl,a2,b2,hc2,hO2⟩
 have hz2:=hO2.size
 (try simp at hz2)
 have HC2:=hdQ hc2
 have HO2:=hdQ (Only.trans HO1.out hO2 omm (λx hx=>hx))
 have HK2:=hdQ (hO2.own HK1.out omm (by simp;omega))
 clear hc2 hO2
 obtain ⟨n2,rfl⟩:=Int.eq_ofNat_of_zero_le a2
 have y2':IntKind.i64.wrap (2+(n2:Int))=2+(n2:Int):=IntWalk.i64_in _ qo
 go_wp2_with fail
 refine (Zaw (n:=200) _ HC2.out qo).mono ?_
 rintro e w3 ⟨x3,rfl,a3,b3,hc3,hO3⟩
 have hz3:=hO3.size
 (try simp at hz3)
 have HC3:=hdQ hc3
 have HO3:=hdQ (Only.trans HO2.out hO3 omm (λx hx=>hx))
 have HK3:=hdQ (hO3.own HK2.out omm (by simp;omega))
 clear hc3 hO3
 have y3':IntKind.i64.wrap (60+x3)=60+x3:=IntWalk.i64_in _ qo
 go_wp2_with fail
 refine (Zaw (n:=60) _ HC3.out qo).mono ?_
 rintro e w4 ⟨x4,rfl,a4,b4,hc4,hO4⟩
 have hz4:=hO4.size
 (try simp at hz4)
 have HC4:=hdQ hc4
 have HO4:=hdQ (Only.trans HO3.out hO4 omm (λx hx=>hx))
 have HK4:=hdQ (hO4.own HK3.out omm (by simp;omega))
 clear hc4 hO4
 have y4':IntKind.i64.wrap (20+x4)=20+x4:=IntWalk.i64_in _ qo
 go_wp2_with fail
 refine (Zx2 (n:=2) _ (Cur.alloc HC4.out _) qo).mono ?_
 rintro e w5 ⟨x5,rfl,hc5,hO5⟩
 have hz5:=hO5.size
 (try simp at hz5)
 have HC5:=hdQ hc5
 have HO5:=hdQ (Only.trans (Only.alloc HO4.out omm _) hO5 omm (λx hx=>hx))
 have HK5:=hdQ (hO5.own (Own.alloc HK4.out _) omm (by simp;omega))
 have HX5:=hdQ (hO5.own (show Own _ _ 23 [.int .i64 (2+(n1:Int)),.int .i64 (2+(n2:Int)),.int .i64 (60+x3),.int .i64 (20+x4),.bool false,.int .i64 0,.int .i64 0] from Own.new _ _ #[_,_,_,_,_,_,_]) omm (by simp;omega))
 clear hc5 hO5
 generalize w4.heap.size=B at *
 cases x5
 case false =>
  go_wp2_with fail
  refine (Zx2 (n:=3) _ HC5.out qo).mono ?_
  rintro e w6 ⟨x6,rfl,hc6,hO6⟩
  have hz6:=hO6.size
  (try simp at hz6)
  have HC6:=hdQ hc6
  have HO6:=hdQ (Only.trans HO5.out hO6 omm (λx hx=>hx))
  have HK6:=hdQ (hO6.own HK5.out omm (by simp;omega))
  have HX6:=hdQ (hO6.own HX5.out omm (by simp;omega))
  clear hc6 hO6
  cases x6
  case false =>
   have hxq:=HX6.out
   have cq0:=hxq.cell 0
   have cq1:=hxq.cell 1
   have cq2:=hxq.cell 2
   have cq3:=hxq.cell 3
   have cq4:=hxq.cell 4
   have cq5:=hxq.cell 5
   have cq6:=hxq.cell 6
   have fq:=hxq.frozen
   simp only [List.getElem?_cons_zero,List.getElem?_cons_succ] at cq0 cq1 cq2 cq3 cq4 cq5 cq6
   have lq:=hxq.lt
   clear hxq
   have hkq:=HK6.out
   have k0:=hkq.cell 0
   have k1:=hkq.cell 1
   have k2:=hkq.cell 2
   have k3:=hkq.cell 3
   have k4:=hkq.cell 4
   have k5:=hkq.cell 5
   have k6:=hkq.cell 6
   have kf:=hkq.frozen
   simp only [List.getElem?_cons_zero,List.getElem?_cons_succ] at k0 k1 k2 k3 k4 k5 k6
   clear hkq
   go_wp2
   refine bodyPost_ret (v:=Zb2 (2+(n1:Int)) (2+(n2:Int)) (60+x3) (20+x4) false 0 0) (by simp [results,Tryz.results145,go_sem, *]) rfl ?_
   refine ⟨2+n1,2+n2,(60+x3),20+x4,false,0,0,by rw [show ((2+n1:Nat):Int)=2+(n1:Int) by omega,show ((2+n2:Nat):Int)=2+(n2:Int) by omega],qo,qo, ?_, ?_, ?_⟩
   ·unfold Za4
    rw [Zbw qo qo,Zbw qo qo,Zbw qo qo,Zbw qo qo,Zbw qo qo,Zbw qo qo]
    rfl
   ·exact (by repeat (first|(with_reducible exact HC6.out)|(with_reducible refine Cur.drew ?_)|(with_reducible refine Cur.drewN ?_ _)|((with_reducible refine Cur.far ?_ ?_ _);rotate_left;(first|omega|(simp<;>omega)))))
   ·exact (by repeat (first|(with_reducible exact HO6.out)|(with_reducible refine Only.drew ?_)|(with_reducible refine Only.drewN ?_ _)|((with_reducible refine Only.up ?_ ?_ _);rotate_left;(first|omega|(simp<;>omega)))))
  case true =>
   go_wp2_with fail
   refine (Zaw (n:=40) _ HC6.out qo).mono ?_
   rintro e w7 ⟨x7,rfl,a7,b7,hc7,hO7⟩
   have hz7:=hO7.size
   (try simp at hz7)
   have HC7:=hdQ hc7
   have HO7:=hdQ (Only.trans HO6.out hO7 omm (λx hx=>hx))
   have HK7:=hdQ (hO7.own HK6.out omm (by simp;omega))
   have HX7:=hdQ (hO7.own HX6.out omm (by simp;omega))
   clear hc7 hO7
   have yu':IntKind.i64.wrap (8+x7)=8+x7:=IntWalk.i64_in _ qo
   have hxp:=HX7.out
   have cp0:=hxp.cell 0
   have cp1:=hxp.cell 1
   have cp2:=hxp.cell 2
   have cp3:=hxp.cell 3
   have cp4:=hxp.cell 4
   have cp5:=hxp.cell 5
   have cp6:=hxp.cell 6
   have fp:=hxp.frozen
   simp only [List.getElem?_cons_zero,List.getElem?_cons_succ] at cp0 cp1 cp2 cp3 cp4 cp5 cp6
   have lp:=hxp.lt
   clear hxp
   go_wp2_with fail
   refine (Zaw (n:=200) _ (Cur.far (p:=⟨B,5,none⟩) HC7.out (by show g<B;omega) _) qo).mono ?_
   rintro e w8 ⟨x8,rfl,a8,b8,hc8,hO8⟩
   have hz8:=hO8.size
   (try simp at hz8)
   have HC8:=hdQ hc8
   have HO8:=hdQ (Only.trans (Only.up (p:=⟨B,5,none⟩) HO7.out (by show w.heap.size<=B;omega) _) hO8 omm (λx hx=>hx))
   have HK8:=hdQ (hO8.own (Own.far (p:=⟨B,5,none⟩) HK7.out (by show w.heap.size≠B;omega) _) omm (by simp;omega))
   have HX8:=hdQ (hO8.own (show Own _ _ 23 [.int .i64 (2+(n1:Int)),.int .i64 (2+(n2:Int)),.int .i64 (60+x3),.int .i64 (20+x4),.bool false,.int .i64 (8+x7),.int .i64 0] from Own.set_ HX7.out 5 (.int .i64 (8+x7))) omm (by simp;omega))
   clear hc8 hO8
   have yv':IntKind.i64.wrap (60+x8)=60+x8:=IntWalk.i64_in _ qo
   have hxq:=HX8.out
   have cq0:=hxq.cell 0
   have cq1:=hxq.cell 1
   have cq2:=hxq.cell 2
   have cq3:=hxq.cell 3
   have cq4:=hxq.cell 4
   have cq5:=hxq.cell 5
   have cq6:=hxq.cell 6
   have fq:=hxq.frozen
   simp only [List.getElem?_cons_zero,List.getElem?_cons_succ] at cq0 cq1 cq2 cq3 cq4 cq5 cq6
   have lq:=hxq.lt
   clear hxq
   have hkq:=HK8.out
   have k0:=hkq.cell 0
   have k1:=hkq.cell 1
   have k2:=hkq.cell 2
   have k3:=hkq.cell 3
   have k4:=hkq.cell 4
   have k5:=hkq.cell 5
   have k6:=hkq.cell 6
   have kf:=hkq.frozen
   simp only [List.getElem?_cons_zero,List.getElem?_cons_succ] at k0 k1 k2 k3 k4 k5 k6
   clear hkq
   go_wp2
   refine bodyPost_ret (v:=Zb2 (2+(n1:Int)) (2+(n2:Int)) (60+x3) (20+x4) false (8+x7) (60+x8)) (by simp [results,Tryz.results145,go_sem, *]) rfl ?_
   refine ⟨2+n1,2+n2,(60+x3),20+x4,false,(8+x7),(60+x8),by rw [show ((2+n1:Nat):Int)=2+(n1:Int) by omega,show ((2+n2:Nat):Int)=2+(n2:Int) by omega],qo,qo, ?_, ?_, ?_⟩
   ·unfold Za4
    rw [Zbw qo qo,Zbw qo qo,Zbw qo qo,Zbw qo qo,Zbw qo qo,Zbw qo qo]
    rfl
   ·exact (by repeat (first|(with_reducible exact HC8.out)|(with_reducible refine Cur.drew ?_)|(with_reducible refine Cur.drewN ?_ _)|((with_reducible refine Cur.far ?_ ?_ _);rotate_left;(first|omega|(simp<;>omega)))))
   ·exact (by repeat (first|(with_reducible exact HO8.out)|(with_reducible refine Only.drew ?_)|(with_reducible refine Only.drewN ?_ _)|((with_reducible refine Only.up ?_ ?_ _);rotate_left;(first|omega|(simp<;>omega)))))
 case true =>
  have hxm:=HX5.out
  have cm0:=hxm.cell 0
  have cm1:=hxm.cell 1
  have cm2:=hxm.cell 2
  have cm3:=hxm.cell 3
  have cm4:=hxm.cell 4
  have cm5:=hxm.cell 5
  have cm6:=hxm.cell 6
  have fm:=hxm.frozen
  simp only [List.getElem?_cons_zero,List.getElem?_cons_succ] at cm0 cm1 cm2 cm3 cm4 cm5 cm6
  have lm:=hxm.lt
  clear hxm
  go_wp2_with fail
  refine (Zaw (n:=120) _ (Cur.far (p:=⟨B,4,none⟩) HC5.out (by show g<B;omega) _) qo).mono ?_
  rintro e w9 ⟨x9,rfl,a9,b9,hc9,hO9⟩
  have hz9:=hO9.size
  (try simp at hz9)
  have HC9:=hdQ hc9
  have HO9:=hdQ (Only.trans (Only.up (p:=⟨B,4,none⟩) HO5.out (by show w.heap.size<=B;omega) _) hO9 omm (λx hx=>hx))
  have HK9:=hdQ (hO9.own (Own.far (p:=⟨B,4,none⟩) HK5.out (by show w.heap.size≠B;omega) _) omm (by simp;omega))
  have HX9:=hdQ (hO9.own (show Own _ _ 23 [.int .i64 (2+(n1:Int)),.int .i64 (2+(n2:Int)),.int .i64 (60+x3),.int .i64 (20+x4),.bool true,.int .i64 0,.int .i64 0] from Own.set_ HX5.out 4 (.bool true)) omm (by simp;omega))
  clear hc9 hO9
  have yz':IntKind.i64.wrap (60+x9)=60+x9:=IntWalk.i64_in _ qo
  have hxn:=HX9.out
  have cn0:=hxn.cell 0
  have cn1:=hxn.cell 1
  have cn2:=hxn.cell 2
  have cn3:=hxn.cell 3
  have cn4:=hxn.cell 4
  have cn5:=hxn.cell 5
  have cn6:=hxn.cell 6
  have fn:=hxn.frozen
  simp only [List.getElem?_cons_zero,List.getElem?_cons_succ] at cn0 cn1 cn2 cn3 cn4 cn5 cn6
  have ln:=hxn.lt
  clear hxn
  go_wp2_with fail
  refine (Zx2 (n:=3) _ (Cur.far (p:=⟨B,2,none⟩) HC9.out (by show g<B;omega) _) qo).mono ?_
  rintro e w10 ⟨x10,rfl,hc10,hO10⟩
  have hz10:=hO10.size
  (try simp at hz10)
  have HC10:=hdQ hc10
  have HO10:=hdQ (Only.trans (Only.up (p:=⟨B,2,none⟩) HO9.out (by show w.heap.size<=B;omega) _) hO10 omm (λx hx=>hx))
  have HK10:=hdQ (hO10.own (Own.far (p:=⟨B,2,none⟩) HK9.out (by show w.heap.size≠B;omega) _) omm (by simp;omega))
  have HX10:=hdQ (hO10.own (show Own _ _ 23 [.int .i64 (2+(n1:Int)),.int .i64 (2+(n2:Int)),.int .i64 (60+x9),.int .i64 (20+x4),.bool true,.int .i64 0,.int .i64 0] from Own.set_ HX9.out 2 (.int .i64 (60+x9))) omm (by simp;omega))
  clear hc10 hO10
  cases x10
  case false =>
   have hxq:=HX10.out
   have cq0:=hxq.cell 0
   have cq1:=hxq.cell 1
   have cq2:=hxq.cell 2
   have cq3:=hxq.cell 3
   have cq4:=hxq.cell 4
   have cq5:=hxq.cell 5
   have cq6:=hxq.cell 6
   have fq:=hxq.frozen
   simp only [List.getElem?_cons_zero,List.getElem?_cons_succ] at cq0 cq1 cq2 cq3 cq4 cq5 cq6
   have lq:=hxq.lt
   clear hxq
   have hkq:=HK10.out
   have k0:=hkq.cell 0
   have k1:=hkq.cell 1
   have k2:=hkq.cell 2
   have k3:=hkq.cell 3
   have k4:=hkq.cell 4
   have k5:=hkq.cell 5
   have k6:=hkq.cell 6
   have kf:=hkq.frozen
   simp only [List.getElem?_cons_zero,List.getElem?_cons_succ] at k0 k1 k2 k3 k4 k5 k6
   clear hkq
   go_wp2
   refine bodyPost_ret (v:=Zb2 (2+(n1:Int)) (2+(n2:Int)) (60+x9) (20+x4) true 0 0) (by simp [results,Tryz.results145,go_sem, *]) rfl ?_
   refine ⟨2+n1,2+n2,(60+x9),20+x4,true,0,0,by rw [show ((2+n1:Nat):Int)=2+(n1:Int) by omega,show ((2+n2:Nat):Int)=2+(n2:Int) by omega],qo,qo, ?_, ?_, ?_⟩
   ·unfold Za4
    rw [Zbw qo qo,Zbw qo qo,Zbw qo qo,Zbw qo qo,Zbw qo qo,Zbw qo qo]
    rfl
   ·exact (by repeat (first|(with_reducible exact HC10.out)|(with_reducible refine Cur.drew ?_)|(with_reducible refine Cur.drewN ?_ _)|((with_reducible refine Cur.far ?_ ?_ _);rotate_left;(first|omega|(simp<;>omega)))))
   ·exact (by repeat (first|(with_reducible exact HO10.out)|(with_reducible refine Only.drew ?_)|(with_reducible refine Only.drewN ?_ _)|((with_reducible refine Only.up ?_ ?_ _);rotate_left;(first|omega|(simp<;>omega)))))
  case true =>
   go_wp2_with fail
   refine (Zaw (n:=40) _ HC10.out qo).mono ?_
   rintro e w11 ⟨x11,rfl,a11,b11,hc11,hO11⟩
   have hz11:=hO11.size
   (try simp at hz11)
   have HC11:=hdQ hc11
   have HO11:=hdQ (Only.trans HO10.out hO11 omm (λx hx=>hx))
   have HK11:=hdQ (hO11.own HK10.out omm (by simp;omega))
   have HX11:=hdQ (hO11.own HX10.out omm (by simp;omega))
   clear hc11 hO11
   have yu':IntKind.i64.wrap (8+x11)=8+x11:=IntWalk.i64_in _ qo
   have hxp:=HX11.out
   have cp0:=hxp.cell 0
   have cp1:=hxp.cell 1
   have cp2:=hxp.cell 2
   have cp3:=hxp.cell 3
   have cp4:=hxp.cell 4
   have cp5:=hxp.cell 5
   have cp6:=hxp.cell 6
   have fp:=hxp.frozen
   simp only [List.getElem?_cons_zero,List.getElem?_cons_succ] at cp0 cp1 cp2 cp3 cp4 cp5 cp6
   have lp:=hxp.lt
   clear hxp
   go_wp2_with fail
   refine (Zaw (n:=200) _ (Cur.far (p:=⟨B,5,none⟩) HC11.out (by show g<B;omega) _) qo).mono ?_
   rintro e w12 ⟨x12,rfl,a12,b12,hc12,hO12⟩
   have hz12:=hO12.size
   (try simp at hz12)
   have HC12:=hdQ hc12
   have HO12:=hdQ (Only.trans (Only.up (p:=⟨B,5,none⟩) HO11.out (by show w.heap.size<=B;omega) _) hO12 omm (λx hx=>hx))
   have HK12:=hdQ (hO12.own (Own.far (p:=⟨B,5,none⟩) HK11.out (by show w.heap.size≠B;omega) _) omm (by simp;omega))
   have HX12:=hdQ (hO12.own (show Own _ _ 23 [.int .i64 (2+(n1:Int)),.int .i64 (2+(n2:Int)),.int .i64 (60+x9),.int .i64 (20+x4),.bool true,.int .i64 (8+x11),.int .i64 0] from Own.set_ HX11.out 5 (.int .i64 (8+x11))) omm (by simp;omega))
   clear hc12 hO12
   have yv':IntKind.i64.wrap (60+x12)=60+x12:=IntWalk.i64_in _ qo
   have hxq:=HX12.out
   have cq0:=hxq.cell 0
   have cq1:=hxq.cell 1
   have cq2:=hxq.cell 2
   have cq3:=hxq.cell 3
   have cq4:=hxq.cell 4
   have cq5:=hxq.cell 5
   have cq6:=hxq.cell 6
   have fq:=hxq.frozen
   simp only [List.getElem?_cons_zero,List.getElem?_cons_succ] at cq0 cq1 cq2 cq3 cq4 cq5 cq6
   have lq:=hxq.lt
   clear hxq
   have hkq:=HK12.out
   have k0:=hkq.cell 0
   have k1:=hkq.cell 1
   have k2:=hkq.cell 2
   have k3:=hkq.cell 3
   have k4:=hkq.cell 4
   have k5:=hkq.cell 5
   have k6:=hkq.cell 6
   have kf:=hkq.frozen
   simp only [List.getElem?_cons_zero,List.getElem?_cons_succ] at k0 k1 k2 k3 k4 k5 k6
   clear hkq
   go_wp2
   refine bodyPost_ret (v:=Zb2 (2+(n1:Int)) (2+(n2:Int)) (60+x9) (20+x4) true (8+x11) (60+x12)) (by simp [results,Tryz.results145,go_sem, *]) rfl ?_
   refine ⟨2+n1,2+n2,(60+x9),20+x4,true,(8+x11),(60+x12),by rw [show ((2+n1:Nat):Int)=2+(n1:Int) by omega,show ((2+n2:Nat):Int)=2+(n2:Int) by omega],qo,qo, ?_, ?_, ?_⟩
   ·unfold Za4
    rw [Zbw qo qo,Zbw qo qo,Zbw qo qo,Zbw qo qo,Zbw qo qo,Zbw qo qo]
    rfl
   ·exact (by repeat (first|(with_reducible exact HC12.out)|(with_reducible refine Cur.drew ?_)|(with_reducible refine Cur.drewN ?_ _)|((with_reducible refine Cur.far ?_ ?_ _);rotate_left;(first|omega|(simp<;>omega)))))
   ·exact (by repeat (first|(with_reducible exact HO12.out)|(with_reducible refine Only.drew ?_)|(with_reducible refine Only.drewN ?_ _)|((with_reducible refine Only.up ?_ ?_ _);rotate_left;(first|omega|(simp<;>omega)))))
end
section
set_option maxRecDepth 100000
open Go.RowKit Go.Lib
def Zj4 (v:World) (n:Nat):World:={ v with heap:=v.heap.extract 0 n }
theorem Zgv {v:World} {n:Nat} (h:n<=v.heap.size):(Zj4 v n).heap.size=n:=by simp [Zj4];omega
theorem Zsk {v:World} {n i:Nat} (h:n<=v.heap.size) (hi:i<n):(Zj4 v n).heap[i]? = v.heap[i]? := by
 simp only [Zj4]
 rw [Array.getElem?_extract_of_lt qo]
 simp
theorem Zqv {v:World} {n:Nat} (h:n<=v.heap.size):Below (Zj4 v n).heap.size (Zj4 v n) v :=
 ⟨rfl,rfl,rfl,by rw [Zgv h];exact h,λk hk=>by rw [Zgv h] at hk;exact (Zsk h hk).symm⟩
theorem SceneR.cut_ {u v:World} {base g:Nat} {Z:List Nat} {s:EScene} {T P Q:OA} {tc pc qc:Nat} (h:SceneR u base Z s T tc P pc Q qc) (hO:Only u.heap.size [g] u v) (hg:g<base):SceneR (Zj4 v u.heap.size) base Z s T tc P pc Q qc :=
 h.keep (by rw [Zgv hO.size];exact Nat.le_refl _) (λx hb hx _=>by rw [Zsk hO.size hx];exact hO.block x hx (by simp;omega))
theorem SceneR.on {u v:World} {base g B:Nat} {Z:List Nat} {s:EScene} {T P Q:OA} {tc pc qc:Nat} (h:SceneR u base Z s T tc P pc Q qc) (hO:Only B [g] u v) (hB:u.heap.size<=B) (hg:g<base):SceneR v base Z s T tc P pc Q qc :=
 h.keep hO.size (λx hb hx _=>hO.block x qo (by simp;omega))
structure SceneD (s:EScene):Prop where
 cam:Za4 s.a s.b s.c s.d s.f s.g=true
 tex:Zax s.log s.tex=true
 side:Zls s.side=true
 ps:∀ p∈s.ps,GoodP p
 ss:∀ x∈s.ss,Zch s.ps.length x=true/\Zrr x
theorem Zt6 {l:List Zag} (h:∀ p∈l,Za3 p=true):Zeg l l.length=true:=by
 unfold Zeg
 rw [List.take_length,List.all_eq_true]
 exact h
theorem Zqx {n:Int} {l:List Zbt} (h:∀ x∈l,Zch n x=true):Zcj n l l.length=true:=by
 unfold Zcj
 rw [List.take_length,List.all_eq_true]
 exact h
theorem SceneD.good {s:EScene} (h:SceneD s) (h1:1<=s.ps.length/\s.ps.length<=3) (h2:s.ss.length<=5):SceneG s/\Zdp s :=
 ⟨⟨Zml ⟨h.cam,h.tex,h1,h2,h.side,Zt6 (λp hp=>(h.ps p hp).1),Zqx (λx hx=>(h.ss x hx).1)⟩,λp hp=>(h.ps p hp).2.1,λx hx=>(h.ss x hx).2⟩,λp hp=>(h.ps p hp).2.2⟩
def Ztr (w:World) (g:Nat) (A:OA) (c:Nat) (l:List Int) (lo:Nat) (e:Ending) (w':World):Prop :=
 ∃ (s:EScene) (TX:OA) (tc:Nat) (P:OA) (pc:Nat) (Q:OA) (qc b:Nat),e=.returned (.agg ⟨cS s TX tc P pc Q qc⟩)/\w.heap.size<b/\b<=w'.heap.size/\SceneR w' b [] s TX tc P pc Q qc/\SceneD s/\(1<=s.ps.length/\s.ps.length<=2)/\(lo<=s.ss.length/\s.ss.length<=3)/\Cur 125 w' g A c l/\Only w.heap.size [g] w w'
theorem Zrn (a b x y:Int) (e:Bool) (u v lg:Int) (T:OA) (n tc:Nat) (sd:Int) (w:World):(Instr.build 30 #[(0,Zb2 a b x y e u v),(1,Zdw lg (.slice T n tc)),(4,.int .i64 sd)]).run Tryz.prog w=.ok (.agg #[.int .i64 a,.int .i64 b,.int .i64 x,.int .i64 y,.bool e,.int .i64 u,.int .i64 v,.int .i64 lg,.slice T n tc,.slice none 0 0,.slice none 0 0,.int .i64 sd]) w:=kr
set_option maxHeartbeats 64000000 in
theorem Zyb {g c:Nat} {A:OA} {l:List Int} (w:World) (h:Cur 125 w g A c l) :
  CL 90 #[.pointer (some ⟨g,0,none⟩)] w (Ztr w g A c l 0):=by
 have HC:=hdQ h
 have hg:=h.lt
 clear h
 have hal:∀ wx:World,(Instr.alloc 30 true (.tuple #[])).run Tryz.prog wx=.ok (.pointer (some ⟨wx.heap.size,0,none⟩)) (wx.alloc (.cells ⟨zS⟩ 30)):=λwx=>by kernel_rfl
 obtain ⟨W0,hW0⟩:∃ W0,W0=w.alloc (.cells ⟨zS⟩ 30):=⟨_,rfl⟩
 have HC0:=qh (Cur 125 W0 g A c l) (by rw [hW0];exact HC.out.alloc _)
 have HY0:=qh (Own W0 w.heap.size 30 zS) (by rw [hW0];exact Own.new w _ _)
 have HO0:=qh (Only w.heap.size [g] w W0) (by rw [hW0];exact (Only.refl _ _ _).alloc (Nat.le_refl _) _)
 have hz0:W0.heap.size=w.heap.size+1:=by rw [hW0];simp
 have HAL0:=qh ((Instr.alloc 30 true (.tuple #[])).run Tryz.prog w=.ok (.pointer (some ⟨w.heap.size,0,none⟩)) W0) (by rw [hW0];exact hal w)
 clear hW0
 go_enter Tryz.func90,Tryz.ntmps90
 go_wp2_with ((with_reducible refine Zbu ?_);first|(refine Zah rfl 30 rfl HAL0.out ?_)|fail)
 (with_reducible refine (Zqe _ HC0.out).mono ?_)
 rintro e u1 ⟨ca,cb,cx,cy,ce,cu,cv,rfl,_,_,hcam,hc,hO⟩
 have hz1:=hO.size
 have HCAM:=hdQ hcam
 have HC1:=hdQ hc
 have HO1:=qh (Only w.heap.size [g] w u1) (Only.trans HO0.out (hO.mono qo (λx hx=>Or.inl hx)) (Nat.le_refl _) (λx hx=>hx))
 have HY1:=qh (Own u1 w.heap.size 30 zS) (hO.own HY0.out qo (by simp;omega))
 clear hcam hc hO
 go_wp2_with fail
 (with_reducible refine (Zya _ HC1.out).mono ?_)
 rintro e u2 ⟨lg,tx,TX,tc,rfl,hvt,hown,hge,hc,hO⟩
 have hz2:=hO.size
 have HVT:=hdQ hvt
 have HTO:=hdQ hown
 have HTG:=hdQ hge
 have HC2:=hdQ hc
 have HO2:=qh (Only w.heap.size [g] w u2) (Only.trans HO1.out (hO.mono qo (λx hx=>Or.inl hx)) (Nat.le_refl _) (λx hx=>hx))
 have HY2:=qh (Own u2 w.heap.size 30 zS) (hO.own HY1.out qo (by simp;omega))
 clear hvt hown hge hc hO
 go_wp2_with fail
 refine (Zx1 (xs:=[1,1,2]) _ (HC2.out.alloc _) (ltt 3) qs qo).mono ?_
 rintro e u3 ⟨sd,hsd,rfl,hc,hO⟩
 have hz3:=hO.size
 (try simp at hz3)
 have HSD:=qh (Zls sd=true) (by
  simp only [List.mem_cons,List.not_mem_nil,or_false] at hsd
  rcases hsd with rfl|rfl|rfl<;>decide)
 have HC3:=hdQ hc
 have HO3:=qh (Only w.heap.size [g] w u3) (Only.trans (HO2.out.alloc qo _) (hO.mono (by simp;omega) (λx hx=>Or.inl hx)) (Nat.le_refl _) (λx hx=>hx))
 have HY3:=qh (Own u3 w.heap.size 30 zS) (hO.own (HY2.out.alloc _) (by simp;omega) (by simp;omega))
 have HT3:=qh (Zdb u3 1 TX tx.length tc 3 (ints tx)) (HTO.out.keep (λy hy hl=>(hO.block y (by simp;omega) (by have:=HTG.out y hy;simp;omega)).trans (Below.heap_alloc u2 _ y hl)))
 clear hc hO hsd
 obtain ⟨X,hX⟩:∃ X,X=u3.heap.size:=⟨_,rfl⟩
 obtain ⟨s0,hs0⟩:∃ s0:EScene,s0=⟨ca,cb,cx,cy,ce,cu,cv,lg,tx,[],[],sd⟩:=⟨_,rfl⟩
 have HD0:=qh (SceneD s0) (by rw [hs0];exact ⟨HCAM.out,HVT.out,HSD.out,(λp hp=>by cases hp),(λx hx=>by cases hx)⟩)
 have hp0:s0.ps=[]:=by rw [hs0]
 have hq0:s0.ss=[]:=by rw [hs0]
 obtain ⟨u4,hst,hs,hbk,hs4,e1,e2,e3⟩:=Zap (P:=Tryz.prog) (T:=30) (zs:=cS s0 TX tc none 0 none 0) (k:=0) (Own.new u3 30 ⟨zS⟩) (by rw [Zbn];exact Za2) (by rw [Zbn];show 12<=12;omega) qr
 (try simp at hs4)
 have hgX:g<X:=qo
 have hwX:w.heap.size<X:=qo
 have HX4:=qh (Own u4 X 30 (cS s0 TX tc none 0 none 0)) (by rw [hX];have:=hs;rw [Zbn] at this;exact this)
 have HY4:=qh (Own u4 w.heap.size 30 zS) ((hbk _ qo).trans (HY3.out.alloc _))
 have HB4:=qh (Bw u3 u4) (((Below.refl _ _).alloc (Nat.le_refl _) _).trans ⟨e1,e2,e3,by simp;omega,λb h=>hbk b qo⟩)
 have HST4:=qh ((Instr.storeAt 30 (.pointer (some ⟨X,0,none⟩)) (.agg #[.int .i64 ca,.int .i64 cb,.int .i64 cx,.int .i64 cy,.bool ce,.int .i64 cu,.int .i64 cv,.int .i64 lg,.slice TX tx.length tc,.slice none 0 0,.slice none 0 0,.int .i64 sd])).run Tryz.prog (u3.alloc (.cells ⟨zS⟩ 30))=.ok () u4) (by rw [hX];rw [hs0] at hst;exact hst)
 have HC4:=qh (Cur 125 u4 g A c l) (HC3.out.step HB4.out)
 have HO4:=qh (Only w.heap.size [g] w u4) (HO3.out.trans (Only.of_below HB4.out []) qo qs)
 obtain ⟨B,hB⟩:∃ B,B=w.heap.size+1:=⟨_,rfl⟩
 have HS4:=qh (SceneR u4 B [X] s0 TX tc none 0 none 0) (by
  have hT4:=HT3.out.keep (λy _ hl=>HB4.out.block y hl)
  refine ⟨by rw [hs0];exact hT4,λy hy=>⟨by have:=HTG.out y hy;omega,(by simp [gOf]), ?_⟩,by rw [hs0];exact Zaj.nil _ _ _ _,(by simp [gOf]),by rw [hs0];exact Zci.nil _ _ _⟩
  have:=HT3.out.lt y hy
  simp;omega)
 clear hst hs hbk e1 e2 e3
 have HALX:=qh ((Instr.alloc 30 true (.tuple #[])).run Tryz.prog u3=.ok (.pointer (some ⟨X,0,none⟩)) (u3.alloc (.cells ⟨zS⟩ 30))) (by rw [hX];exact hal u3)
 have HX4B:=qh (X<u4.heap.size) HX4.out.lt
 clear hX hs0
 go_wp2_with ((with_reducible refine Zbu ?_);first|(refine Zha rfl 30 0 1 4 (.tmp 7) (.tmp 9) (.tmp 12) rfl rfl rfl rfl (Zrn ca cb cx cy ce cu cv lg TX tx.length tc sd _) ?_)|(refine Zah rfl 30 rfl HALX.out ?_)|(refine Zae rfl 30 (.tmp 3) (.tmp 13) rfl rfl rfl HST4.out ?_)|fail)
 (with_reducible refine (Zaw (n:=2) _ HC4.out qo).mono ?_)
 rintro e u5 ⟨r,rfl,r0,r1,hc,hO⟩
 have hz5:=hO.size
 have HC5:=hdQ hc
 have HO5:=qh (Only w.heap.size [g] w u5) (Only.trans HO4.out (hO.mono (by have:=HO4.out.size;omega) (λx hx=>Or.inl hx)) (Nat.le_refl _) (λx hx=>hx))
 have HX5:=qh (Own u5 X 30 (cS s0 TX tc none 0 none 0)) (hO.own HX4.out HX4.out.lt (by simp;omega))
 have HY5:=qh (Own u5 w.heap.size 30 zS) (hO.own HY4.out HY4.out.lt (by simp;omega))
 have HS5:=qh (SceneR u5 B [X] s0 TX tc none 0 none 0) (HS4.out.on hO (Nat.le_refl _) qo)
 clear hc hO
 obtain ⟨N,hN⟩:∃ N:Nat,1+r=N:=⟨(1+r).toNat,qo⟩
 have hN1:1<=N/\N<=2:=qo
 have wn:IntKind.i64.wrap (1+r)=N:=by rw [hN];exact IntWalk.i64_in _ qo
 clear HY0 HY1 HY2 HY3 HY4 HC0 HC1 HC2 HC3 HC4 HO0 HO1 HO2 HO3 HO4 HX4 HS4 HT3 HTO HTG HB4 HST4 HALX HAL0 hal
 go_wp2_with fail
 go_loopw [4] (λn_ wr=>∃ (m:Nat) (s:EScene) (P:OA) (pc:Nat),m+s.ps.length=N/\s.ss=[]/\s.tex.length=s0.tex.length/\n_=.int .i64 m/\SceneD s/\Own wr X 30 (cS s TX tc P pc none 0)/\SceneR wr B [X] s TX tc P pc none 0/\Own wr w.heap.size 30 zS/\Cur 125 wr g A c l/\Only w.heap.size [g] w wr) (λn_ _=>(RowKit.intOf n_).toNat)
 case atStart=>exact ⟨N,s0,none,0,by rw [hp0];rfl,hq0,rfl,rfl,HD0.out,HX5.out,HS5.out,HY5.out,HC5.out,HO5.out⟩
 case round =>
  obtain ⟨m,s,P,pc,hm,hq,htl,rfl,hd,hx,hsr,hy,hc,hO⟩:=hrel
  have HD:=hdQ hd
  have HXr:=hdQ hx
  have HSr:=hdQ hsr
  have HYr:=hdQ hy
  have HCr:=hdQ hc
  have HOr:=hdQ hO
  have hxl:=hx.lt
  have hzr:=hO.size
  clear hd hx hsr hy hc hO HX5 HS5 HY5 HC5 HO5 HD0
  by_cases hlt:0<m
  ·have i1:(0:Int)<m:=by omega
   have hm1:IntKind.i64.wrap ((m:Int)-1)=((m-1:Nat):Int):=by rw [show (m:Int)-1=((m-1:Nat):Int) by omega];exact IntWalk.i64_in _ qo
   have k9:wr.cell? ⟨X,9,none⟩=some (.slice P s.ps.length pc):=HXr.out.cell 9
   have hpl:s.ps.length<=2:=qo
   go_wp2_with fail
   refine Zbc (S:=(λw'=>w'.cell? ⟨X,9,none⟩=some (.slice P s.ps.length pc))) 7 kr (by (try dsimp only);go_simp) (λhHeld=>?_)
   refine tkM 0 ?_
   refine tkM 1 ?_
   refine tkM 2 ?_
   refine Zaa (i:=3) rfl kr (λK3 hK3=>?_)
   go_simp
   refine (S_good14 _ HCr.out.drew).mono ?_
   rintro e v ⟨p,NA,AA,nc,ac,b,rfl,hgd,hb1,hb2,hpm,hc,hO⟩
   have hzv:=hO.size
   (try simp at hzv hb1)
   have HGD:=hdQ hgd
   have HPM:=hdQ (hpm.mono (b:=wr.heap.size) hb1)
   have HCv:=hdQ hc
   have HXv:=qh (Own v X 30 (cS s TX tc P pc none 0)) (hO.own HXr.out.drew (by simp;omega) (by simp;omega))
   have HYv:=qh (Own v w.heap.size 30 zS) (hO.own HYr.out.drew (by simp;omega) (by simp;omega))
   have HOv:=qh (Only w.heap.size [g] w v) (Only.trans HOr.out.drew (hO.mono (by simp;omega) (λx hx=>Or.inl hx)) (Nat.le_refl _) (λx hx=>hx))
   have HSU:=qh (SceneR (Zj4 v wr.heap.size) B [X] s TX tc P pc none 0) (SceneR.cut_ HSr.out (⟨hO.os,hO.tape,hO.output,hO.size,hO.block⟩:Only wr.heap.size [g] wr v) qo)
   have HUS:=qh ((Zj4 v wr.heap.size).heap.size=wr.heap.size) (Zgv hzv)
   have HUB:=qh (Below (Zj4 v wr.heap.size).heap.size (Zj4 v wr.heap.size) v) (Zqv hzv)
   have hXv:=HXv.out.lt
   have kv9:v.cell? ⟨X,9,none⟩=some (.slice P s.ps.length pc):=HXv.out.cell 9
   clear hgd hpm hc hO
   obtain ⟨cs,lo,hi,g1,g2,g3,g4,g5⟩:=HSU.out.ps
   have HC1:=hdQ g1
   have HC2:=hdQ g2
   have HC3:=hdQ g3
   have HC4:=hdQ g4
   have HC5:=hdQ g5
   have hXP:X∉gOf P:=g5 X qs
   have HGV:=qh (Zaj v B 62 2 P s.ps.length pc cs) (Zaj.step HUB.out g1)
   clear g1 g2 g3 g4 g5
   refine hK3.out _ _ (λ_=>kv9) (λhHeld3=>?_)
   have hS3:=hHeld3 qd
   clear hHeld
   refine Zaa (i:=4) rfl kr (λK4 hK4=>?_)
   go_simp
   refine hK4.out _ _ (λ_=>(by (try dsimp only);go_simp)) (λhHeld4=>?_)
   have hS4:=hHeld4 qd
   have HV4:=qh (Bw v (v.alloc (.cells #[.slice NA p.1.length nc,.slice AA p.2.length ac] 62))) ((Below.refl _ _).alloc (Nat.le_refl _) _)
   have HGW:=qh (Zaj (v.alloc (.cells #[.slice NA p.1.length nc,.slice AA p.2.length ac] 62)) B 62 2 P s.ps.length pc cs) (HGV.out.alloc _)
   have HBX4:=qh (Own (v.alloc (.cells #[.slice NA p.1.length nc,.slice AA p.2.length ac] 62)) v.heap.size 62 [.slice NA p.1.length nc,.slice AA p.2.length ac]) (Own.new v _ #[_,_])
   refine Zaa (i:=5) rfl kr (λK5 hK5=>?_)
   (refine Zcs qr _ _ 27 qr (B) 62 (.agg #[.slice none 0 0,.slice none 0 0]) 2 48 Tryz.underlying27 T.infoProgA rfl qd (xs:=cs) qr ?_ (ys:=[.slice NA p.1.length nc,.slice AA p.2.length ac]) qr ?_ (Znr _ _ _ _ _ _) ?_ ?_ ?_ ?_;(exact (gwx HGW.out));(exact (ltt 1));(unfold maxLen;omega);(omega);(first|omega|(simp<;>omega));rintro P7 k7 x7 gA7)
   have hsa:=gA7.2.2.2.1
   (try simp at hsa)
   have HSR7:=qh (SceneR x7 B [X] { s with ps:=s.ps++[p] } TX tc P7 k7 none 0) (HSU.out.prog (by intro z hz;simp at hz;have:=HUS.out;omega) HC1.out HC2.out HC3.out HC4.out HC5.out (by have:=HUS.out;omega) HUB.out (by rw [HUS.out];exact HPM.out) HV4.out gA7)
   have ho7:Own x7 X 30 (cS s TX tc P pc none 0):=(gA7.2.2.1.block X (by simp;omega) (by cases P<;>simp_all [gOf])).trans (Own.alloc HXv.out _)
   have HO7:=hdQ ho7
   have HB7:=hdQ gA7.2.1
   have k97:=ho7.cell 9
   have kf:=ho7.frozen 9
   have kl:=ho7.lt
   clear gA7 ho7
   refine hK5.out _ _ (λ_=>k97) (λhHeld5=>?_)
   have hS5:=hHeld5 qd
   refine tkM 6 ?_
   refine Zaa (i:=7) rfl kr (λK7 hK7=>?_)
   go_simp
   refine hK7.out _ _ (λh=>absurd rfl h) (λhHeld7=>?_)
   refine Zbd kr ?_ _
   have HOF:=qh (Own (x7.setCell ⟨X,9,none⟩ (.slice P7 (s.ps.length+1) k7)) X 30 (cS { s with ps:=s.ps++[p] } TX tc P7 k7 none 0)) (by rw [<- cS_ps];exact HO7.out.set_ 9 _)
   have HSF:=qh (SceneR (x7.setCell ⟨X,9,none⟩ (.slice P7 (s.ps.length+1) k7)) B [X] { s with ps:=s.ps++[p] } TX tc P7 k7 none 0) (HSR7.out.at_ (OnlyAt.setCell _ _ _ _))
   have HCF:=qh (Cur 125 (x7.setCell ⟨X,9,none⟩ (.slice P7 (s.ps.length+1) k7)) g A c l) ((Cur.stepB (HCv.out.alloc _) HB7.out qo).far (p:=⟨X,9,none⟩) (by show g<X;omega) _)
   have HYF:=qh (Own (x7.setCell ⟨X,9,none⟩ (.slice P7 (s.ps.length+1) k7)) w.heap.size 30 zS) ((Own.below (HYv.out.alloc _) HB7.out qo).far (p:=⟨X,9,none⟩) (by show w.heap.size≠X;omega) _)
   have HOFF:=qh (Only w.heap.size [g] w (x7.setCell ⟨X,9,none⟩ (.slice P7 (s.ps.length+1) k7))) ((Only.trans (HOv.out.alloc (by have:=HOv.out.size;omega) _) ((Only.of_below HB7.out [g]).mono qo (λx hx=>Or.inl hx)) (Nat.le_refl _) (λx hx=>hx)).up (p:=⟨X,9,none⟩) (by show w.heap.size<=X;omega) _)
   have HDF:=qh (SceneD { s with ps:=s.ps++[p] }) ⟨HD.out.cam,HD.out.tex,HD.out.side,(λq hq'=>by
    rcases List.mem_append.1 hq' with hq'|hq'
    ·exact HD.out.ps q hq'
    ·rw [List.mem_singleton.1 hq'];exact HGD.out),(λx hx=>by rw [show ({ s with ps:=s.ps++[p] }:EScene).ss=s.ss from rfl,hq] at hx;cases hx)⟩
   clear hS3 hS4 hS5
   go_wp2_with fail
   go_roundw
   case rel=>exact ⟨m-1,{ s with ps:=s.ps++[p] },P7,k7,by simp;omega,hq,htl,qg,HDF.out,HOF.out,HSF.out,HYF.out,HCF.out,HOFF.out⟩
   case measure=>exact qn
  ·obtain rfl:m=0:=by omega
   have i1:¬ (0:Int)<0:=qo
   have hpl:s.ps.length=N:=qo
   go_wp2_with fail
   (with_reducible refine (Zaw (n:=4) _ HCr.out qo).mono ?_)
   rintro e v5 ⟨r2,rfl,r20,r21,hc,hO⟩
   have hzv5:=hO.size
   have HC5:=hdQ hc
   have HO5:=qh (Only w.heap.size [g] w v5) (Only.trans HOr.out (hO.mono qo (λx hx=>Or.inl hx)) (Nat.le_refl _) (λx hx=>hx))
   have HX5:=qh (Own v5 X 30 (cS s TX tc P pc none 0)) (hO.own HXr.out hxl (by simp;omega))
   have HY5:=qh (Own v5 w.heap.size 30 zS) (hO.own HYr.out HYr.out.lt (by simp;omega))
   have HS5:=qh (SceneR v5 B [X] s TX tc P pc none 0) (HSr.out.on hO (Nat.le_refl _) qo)
   clear hc hO HXr HSr HYr HCr HOr
   obtain ⟨M,rfl⟩:∃ M:Nat,r2=M:=⟨r2.toNat,qo⟩
   have hM:M<=3:=qo
   clear r20 r21
   go_wp2_with fail
   go_loopw [5] (λn_ wr=>∃ (m:Nat) (s':EScene) (Q:OA) (qc:Nat),m+s'.ss.length=M/\s'.ps=s.ps/\s'.tex.length=s0.tex.length/\n_=.int .i64 m/\SceneD s'/\Own wr X 30 (cS s' TX tc P pc Q qc)/\SceneR wr B [X] s' TX tc P pc Q qc/\Own wr w.heap.size 30 zS/\Cur 125 wr g A c l/\Only w.heap.size [g] w wr) (λn_ _=>(RowKit.intOf n_).toNat)
   case atStart=>exact ⟨M,s,none,0,by rw [hq];rfl,rfl,htl,rfl,HD.out,HX5.out,HS5.out,HY5.out,HC5.out,HO5.out⟩
   case round =>
    obtain ⟨m,s',Q,qc,hm',hps,htl',rfl,hd,hx,hsr,hy,hc,hO⟩:=hrel
    have HPN:=qh (1<=s'.ps.length/\s'.ps.length<=2) (by rw [hps];omega)
    have HPS:=hdQ hps
    have HTL:=hdQ htl'
    have HPL:=hdQ hpl
    clear hps htl' hpl
    have HD':=hdQ hd
    have HXr:=hdQ hx
    have HSr:=hdQ hsr
    have HYr:=hdQ hy
    have HCr:=hdQ hc
    have HOr:=hdQ hO
    have hxl:=hx.lt
    have hzr:=hO.size
    clear hd hx hsr hy hc hO HX5 HS5 HY5 HC5 HO5
    by_cases hlt:0<m
    ·have i1:(0:Int)<m:=by omega
     have hm1:IntKind.i64.wrap ((m:Int)-1)=((m-1:Nat):Int):=by rw [show (m:Int)-1=((m-1:Nat):Int) by omega];exact IntWalk.i64_in _ qo
     skip
     have k9:wr.cell? ⟨X,9,none⟩=some (.slice P s'.ps.length pc):=HXr.out.cell 9
     have k10:wr.cell? ⟨X,10,none⟩=some (.slice Q s'.ss.length qc):=HXr.out.cell 10
     have hsl:s'.ss.length<=3:=qo
     go_wp2_with fail
     refine Zbc (S:=(λw'=>w'.cell? ⟨X,10,none⟩=some (.slice Q s'.ss.length qc)/\w'.cell? ⟨X,9,none⟩=some (.slice P s'.ps.length pc))) 10 kr (by (try dsimp only);refine ⟨?_, ?_⟩<;>(go_simp;done)) (λhHeld=>?_)
     refine tkM 0 ?_
     refine tkM 1 ?_
     refine tkM 2 ?_
     refine tkM 3 ?_
     refine tkM 4 ?_
     refine tkM 5 ?_
     refine Zaa (i:=6) rfl kr (λK6 hK6=>?_)
     go_simp
     refine (Zi4 (n:=s'.ps.length) _ HCr.out.drew ⟨by have:=HPN.out;omega,by have:=HPN.out;omega⟩).mono ?_
     rintro e v ⟨x,rfl,hxo,hxm,hc,hO⟩
     have hzv:=hO.size
     (try simp at hzv)
     have HXO:=hdQ hxo
     have HXM:=hdQ hxm
     have HCv:=hdQ hc
     have HXv:=qh (Own v X 30 (cS s' TX tc P pc Q qc)) (hO.own HXr.out.drew (by simp;omega) (by simp;omega))
     have HYv:=qh (Own v w.heap.size 30 zS) (hO.own HYr.out.drew (by simp;omega) (by simp;omega))
     have HOv:=qh (Only w.heap.size [g] w v) (Only.trans HOr.out.drew (hO.mono (by simp;omega) (λx hx=>Or.inl hx)) (Nat.le_refl _) (λx hx=>hx))
     have HSv:=qh (SceneR v B [X] s' TX tc P pc Q qc) (SceneR.on HSr.out (⟨hO.os,hO.tape,hO.output,hO.size,hO.block⟩:Only wr.heap.size [g] wr v) (Nat.le_refl _) qo)
     have hXv:=HXv.out.lt
     have kv9:v.cell? ⟨X,9,none⟩=some (.slice P s'.ps.length pc):=HXv.out.cell 9
     have kv10:v.cell? ⟨X,10,none⟩=some (.slice Q s'.ss.length qc):=HXv.out.cell 10
     clear hxo hxm hc hO
     refine hK6.out _ _ (λ_=>⟨kv10,kv9⟩) (λhHeld6=>?_)
     have hS6:=hHeld6 qd
     clear hHeld k9 k10
     refine Zaa (i:=7) rfl kr (λK7 hK7=>?_)
     refine Zgf rfl _ _ rfl rfl (Zjw x _) ?_
     refine hK7.out _ _ (λ_=>(by (try dsimp only);refine ⟨?_, ?_⟩<;>(go_simp;done))) (λhHeld7=>?_)
     have hS7:=hHeld7 qd
     refine Zaa (i:=8) rfl kr (λK8 hK8=>?_)
     (refine Zcs qr _ _ 28 qr (B) 45 (.agg ⟨z26⟩) 26 208 Tryz.underlying28 T.infoSurf3 rfl qd (xs:=Zcz s'.ss) qr ?_ (ys:=eSurf x) qr ?_ (Zgo _) ?_ ?_ ?_ ?_;(exact (gwx HSv.out.ss));(exact (ltt 1));(unfold maxLen;omega);(omega);(first|omega|(simp<;>omega));rintro P7 k7 x7 gA7)
     have hsa:=gA7.2.2.2.1
     (try simp at hsa)
     have HSR7:=qh (SceneR x7 B [X] { s' with ss:=s'.ss++[x] } TX tc P pc P7 k7) ((HSv.out.step bll).surf (by intro z hz;simp at hz;subst hz;first|omega|(simp<;>omega)) gA7)
     have hXQ:X∉gOf Q:=λq=>HSv.out.ssz X q qs
     have ho2:Own x7 X 30 (cS s' TX tc P pc Q qc):=(gA7.2.2.1.block X (by simp;omega) (by cases Q<;>simp_all [gOf])).trans (Own.alloc HXv.out _)
     have HO7:=hdQ ho2
     have HB7:=hdQ gA7.2.1
     have k107:x7.cell? ⟨X,10,none⟩=some (.slice Q s'.ss.length qc):=ho2.cell 10
     have k97:x7.cell? ⟨X,9,none⟩=some (.slice P s'.ps.length pc):=ho2.cell 9
     have kf:=ho2.frozen 10
     have kl:=ho2.lt
     clear gA7 ho2
     refine hK8.out _ _ (λ_=>⟨k107,k97⟩) (λhHeld8=>?_)
     have hS8:=hHeld8 qd
     refine tkM 9 ?_
     refine Zaa (i:=10) rfl kr (λK10 hK10=>?_)
     go_simp
     refine hK10.out _ _ (λh=>absurd rfl h) (λhHeld10=>?_)
     refine Zbd kr ?_ _
     have HOF:=qh (Own (x7.setCell ⟨X,10,none⟩ (.slice P7 (s'.ss.length+1) k7)) X 30 (cS { s' with ss:=s'.ss++[x] } TX tc P pc P7 k7)) (by rw [<- cS_ss];exact HO7.out.set_ 10 _)
     have HSF:=qh (SceneR (x7.setCell ⟨X,10,none⟩ (.slice P7 (s'.ss.length+1) k7)) B [X] { s' with ss:=s'.ss++[x] } TX tc P pc P7 k7) (HSR7.out.at_ (OnlyAt.setCell _ _ _ _))
     have HCF:=qh (Cur 125 (x7.setCell ⟨X,10,none⟩ (.slice P7 (s'.ss.length+1) k7)) g A c l) ((Cur.stepB (HCv.out.alloc _) HB7.out qo).far (p:=⟨X,10,none⟩) (by show g<X;omega) _)
     have HYF:=qh (Own (x7.setCell ⟨X,10,none⟩ (.slice P7 (s'.ss.length+1) k7)) w.heap.size 30 zS) ((Own.below (HYv.out.alloc _) HB7.out qo).far (p:=⟨X,10,none⟩) (by show w.heap.size≠X;omega) _)
     have HOFF:=qh (Only w.heap.size [g] w (x7.setCell ⟨X,10,none⟩ (.slice P7 (s'.ss.length+1) k7))) ((Only.trans (HOv.out.alloc (by have:=HOv.out.size;omega) _) ((Only.of_below HB7.out [g]).mono qo (λx hx=>Or.inl hx)) (Nat.le_refl _) (λx hx=>hx)).up (p:=⟨X,10,none⟩) (by show w.heap.size<=X;omega) _)
     have HDF:=qh (SceneD { s' with ss:=s'.ss++[x] }) ⟨HD'.out.cam,HD'.out.tex,HD'.out.side,HD'.out.ps,(λq hq'=>by
      rcases List.mem_append.1 hq' with hq'|hq'
      ·exact HD'.out.ss q hq'
      ·rw [List.mem_singleton.1 hq'];exact ⟨HXO.out,HXM.out⟩)⟩
     clear hS6 hS7 hS8
     go_wp2_with fail
     go_roundw
     case rel=>exact ⟨m-1,{ s' with ss:=s'.ss++[x] },P7,k7,by simp;omega,HPS.out,HTL.out,qg,HDF.out,HOF.out,HSF.out,HYF.out,HCF.out,HOFF.out⟩
     case measure=>exact qn
    ·obtain rfl:m=0:=by omega
     have i1:¬ (0:Int)<0:=qo
     have HLD:=qh ((Instr.loadAt 30 (.pointer (some ⟨X,0,none⟩))).run Tryz.prog wr=.ok (.agg ⟨cS s' TX tc P pc Q qc⟩) wr) (Zak (P:=Tryz.prog) Tryz.underlying30 rfl (by rw [Zbn];exact Za2) (λj v hv=>by rw [Nat.zero_add,HXr.out.cell];exact hv))
     obtain ⟨u7,hst,hs,hbk,hs7,e1,e2,e3⟩:=Zap (P:=Tryz.prog) (T:=30) (zs:=cS s' TX tc P pc Q qc) (k:=0) HYr.out (by rw [Zbn];exact Za2) (by rw [Zbn];show 12<=12;omega) qr
     have HST7:=hdQ hst
     have HR:=qh (u7.heap[w.heap.size]? = some (.cells ⟨cS s' TX tc P pc Q qc⟩ 30 (0,0))) (by have:=hs;unfold Own at this;rw [this];rw [Zbn];simp [zS])
     have hBl:Below (w.heap.size) wr u7:=⟨e1,e2,e3,qo,λb h=>hbk b qo⟩
     have HC7:=qh (Cur 125 u7 g A c l) (HCr.out.stepB (B:=w.heap.size) hBl hg)
     have HO7:=qh (Only w.heap.size [g] w u7) (HOr.out.trans (Only.of_below hBl []) (Nat.le_refl _) qs)
     have HS7:=qh (SceneR u7 B [] s' TX tc P pc Q qc) ((HSr.out.keep qo (λx hx hl _=>hbk x qo)).fewer)
     clear hst hs hbk e1 e2 e3 hBl
     go_wp2_with ((with_reducible refine Zbu ?_);first|(refine Zal rfl 30 (.tmp 3) rfl rfl HLD.out ?_)|(refine Zae rfl 30 (.tmp 2) (.tmp 44) rfl rfl rfl HST7.out ?_)|fail)
     refine bodyPost_ret (v:=.agg ⟨cS s' TX tc P pc Q qc⟩) (results_cell_row Tryz.results90 _ _ w.heap.size _ _ (0,0) _ rfl HR.out Tryz.underlying30 rfl kr) rfl ?_
     exact ⟨s',TX,tc,P,pc,Q,qc,B,rfl,qo,qo,HS7.out,HD'.out,HPN.out,⟨Nat.zero_le _,qo⟩,HC7.out,HO7.out⟩
set_option maxHeartbeats 64000000 in
theorem Zu6 {g c:Nat} {A:OA} {l:List Int} (w:World) (h:Cur 125 w g A c l) :
  CL 38 #[.pointer (some ⟨g,0,none⟩)] w (Ztr w g A c l 1):=by
 have HC:=hdQ h
 have hg:=h.lt
 clear h
 have hal:∀ wx:World,(Instr.alloc 30 true (.tuple #[])).run Tryz.prog wx=.ok (.pointer (some ⟨wx.heap.size,0,none⟩)) (wx.alloc (.cells ⟨zS⟩ 30)):=λwx=>by kernel_rfl
 obtain ⟨W0,hW0⟩:∃ W0,W0=w.alloc (.cells ⟨zS⟩ 30):=⟨_,rfl⟩
 have HC0:=qh (Cur 125 W0 g A c l) (by rw [hW0];exact HC.out.alloc _)
 have HY0:=qh (Own W0 w.heap.size 30 zS) (by rw [hW0];exact Own.new w _ _)
 have HO0:=qh (Only w.heap.size [g] w W0) (by rw [hW0];exact (Only.refl _ _ _).alloc (Nat.le_refl _) _)
 have hz0:W0.heap.size=w.heap.size+1:=by rw [hW0];simp
 have HAL0:=qh ((Instr.alloc 30 true (.tuple #[])).run Tryz.prog w=.ok (.pointer (some ⟨w.heap.size,0,none⟩)) W0) (by rw [hW0];exact hal w)
 clear hW0
 go_enter Tryz.func38,Tryz.ntmps38
 go_wp2_with ((with_reducible refine Zbu ?_);first|(refine Zah rfl 30 rfl HAL0.out ?_)|fail)
 (with_reducible refine (Zyb _ HC0.out).mono ?_)
 rintro e u3 ⟨s,TX,tc,P,pc,Q,qc,b,rfl,hb0,hb1,hsr,hd,hps,hss,hc,hO⟩
 have hz3:=hO.size
 obtain ⟨E,hE⟩:=qv (cS s TX tc P pc Q qc)
 have HE:=hdQ hE
 have HSR:=hdQ hsr
 have HD:=hdQ hd
 have HPS:=hdQ hps
 have HSS:=hdQ hss.2
 have HC3:=hdQ hc
 have HO3:=qh (Only w.heap.size [g] w u3) (Only.trans HO0.out (hO.mono qo (λx hx=>Or.inl hx)) (Nat.le_refl _) (λx hx=>hx))
 have HY3:=qh (Own u3 w.heap.size 30 zS) (hO.own HY0.out qo (by simp;omega))
 clear hsr hd hps hss hc hO
 obtain ⟨X,hX⟩:∃ X,X=u3.heap.size:=⟨_,rfl⟩
 obtain ⟨u4,hst,hs,hbk,hs4,e1,e2,e3⟩:=Zap (P:=Tryz.prog) (T:=30) (zs:=cS s TX tc P pc Q qc) (k:=0) (Own.new u3 30 ⟨zS⟩) (by rw [Zbn];exact Za2) (by rw [Zbn];show 12<=12;omega) qr
 (try simp at hs4)
 have hgX:g<X:=qo
 have hwX:w.heap.size<X:=qo
 have HX4:=qh (Own u4 X 30 (cS s TX tc P pc Q qc)) (by rw [hX];have:=hs;rw [Zbn] at this;exact this)
 have HY4:=qh (Own u4 w.heap.size 30 zS) ((hbk _ qo).trans (HY3.out.alloc _))
 have HB4:=qh (Bw u3 u4) (((Below.refl _ _).alloc (Nat.le_refl _) _).trans ⟨e1,e2,e3,by simp;omega,λb h=>hbk b qo⟩)
 have HST4:=qh ((Instr.storeAt 30 (.pointer (some ⟨X,0,none⟩)) (.agg ⟨cS s TX tc P pc Q qc⟩)).run Tryz.prog (u3.alloc (.cells ⟨zS⟩ 30))=.ok () u4) (by rw [hX];exact hst)
 have HC4:=qh (Cur 125 u4 g A c l) (HC3.out.step HB4.out)
 have HO4:=qh (Only w.heap.size [g] w u4) (HO3.out.trans (Only.of_below HB4.out []) qo qs)
 have hgb:g<b:=qo
 have HS4:=qh (SceneR u4 b [X] s TX tc P pc Q qc) (by
  have h1:=HSR.out.step HB4.out
  refine ⟨h1.tex,λy hy=>⟨(h1.texb y hy).1,(h1.texb y hy).2.1, ?_⟩,h1.ss,λy hy=>?_,HSR.out.ps.setX HB4.out (λy hy=>?_)⟩
  ·have:=HSR.out.tex.lt y hy;simp;omega
  ·have:=HSR.out.ss.lt y hy;simp;omega
  ·simp only [List.cons_append,List.nil_append,List.mem_cons] at hy ⊢
   rcases hy with rfl|hy
   ·right;omega
   ·left;exact hy)
 clear hst hs hbk e1 e2 e3 hE HE
 have HALX:=qh ((Instr.alloc 30 true (.tuple #[])).run Tryz.prog u3=.ok (.pointer (some ⟨X,0,none⟩)) (u3.alloc (.cells ⟨zS⟩ 30))) (by rw [hX];exact hal u3)
 have HX4B:=qh (X<u4.heap.size) HX4.out.lt
 have HbX:=qh (b<=u4.heap.size) (by have:=HX4.out.lt;omega)
 clear hX hal
 go_wp2_with ((with_reducible refine Zbu ?_);first|(refine Zah rfl 30 rfl HALX.out ?_)|(refine Zae rfl 30 (.tmp 3) (.tmp 5) rfl rfl rfl HST4.out ?_)|fail)
 clear HST4 HALX HAL0
 have k10':u4.cell? ⟨X,10,none⟩=some (.slice Q s.ss.length qc):=HX4.out.cell 10
 by_cases h0:s.ss.length=0
 ·have hz:s.ss=[]:=List.eq_nil_of_length_eq_zero h0
  have HZ:=hdQ h0
  have e0:((s.ss.length:Int)==0)=true:=by rw [h0];rfl
  clear hz h0
  refine wp_loop_rounds 2 ?_
  rw [rounds_succ]
  go_wp2_with fail
  clear e0 k10'
  have k9:u4.cell? ⟨X,9,none⟩=some (.slice P s.ps.length pc):=HX4.out.cell 9
  have k10:u4.cell? ⟨X,10,none⟩=some (.slice Q s.ss.length qc):=HX4.out.cell 10
  have hsl:s.ss.length<=3:=HSS.out
  have hxl:=HX4.out.lt
  refine Zbc (S:=(λw'=>w'.cell? ⟨X,10,none⟩=some (.slice Q s.ss.length qc)/\w'.cell? ⟨X,9,none⟩=some (.slice P s.ps.length pc))) 10 kr (by (try dsimp only);refine ⟨?_, ?_⟩<;>(go_simp;done)) (λhHeld=>?_)
  refine tkM 0 ?_
  refine tkM 1 ?_
  refine tkM 2 ?_
  refine tkM 3 ?_
  refine tkM 4 ?_
  refine tkM 5 ?_
  refine Zaa (i:=6) rfl kr (λK6 hK6=>?_)
  go_simp
  refine (Zi4 (n:=s.ps.length) _ HC4.out.drew ⟨by have:=HPS.out;omega,by have:=HPS.out;omega⟩).mono ?_
  rintro e v ⟨x,rfl,hxo,hxm,hc,hO⟩
  have hzv:=hO.size
  (try simp at hzv)
  have HXO:=hdQ hxo
  have HXM:=hdQ hxm
  have HCv:=hdQ hc
  have HXv:=qh (Own v X 30 (cS s TX tc P pc Q qc)) (hO.own HX4.out.drew (by simp;omega) (by simp;omega))
  have HYv:=qh (Own v w.heap.size 30 zS) (hO.own HY4.out.drew (by simp;omega) (by simp;omega))
  have HOv:=qh (Only w.heap.size [g] w v) (Only.trans HO4.out.drew (hO.mono (by simp;omega) (λx hx=>Or.inl hx)) (Nat.le_refl _) (λx hx=>hx))
  have HSv:=qh (SceneR v b [X] s TX tc P pc Q qc) (SceneR.on HS4.out (⟨hO.os,hO.tape,hO.output,hO.size,hO.block⟩:Only u4.heap.size [g] u4 v) (Nat.le_refl _) qo)
  have hXv:=HXv.out.lt
  have kv9:v.cell? ⟨X,9,none⟩=some (.slice P s.ps.length pc):=HXv.out.cell 9
  have kv10:v.cell? ⟨X,10,none⟩=some (.slice Q s.ss.length qc):=HXv.out.cell 10
  clear hxo hxm hc hO
  refine hK6.out _ _ (λ_=>⟨kv10,kv9⟩) (λhHeld6=>?_)
  have hS6:=hHeld6 qd
  clear hHeld k9 k10
  refine Zaa (i:=7) rfl kr (λK7 hK7=>?_)
  refine Zgf rfl _ _ rfl rfl (Zjw x _) ?_
  refine hK7.out _ _ (λ_=>(by (try dsimp only);refine ⟨?_, ?_⟩<;>(go_simp;done))) (λhHeld7=>?_)
  have hS7:=hHeld7 qd
  refine Zaa (i:=8) rfl kr (λK8 hK8=>?_)
  (refine Zcs qr _ _ 28 qr (b) 45 (.agg ⟨z26⟩) 26 208 Tryz.underlying28 T.infoSurf3 rfl qd (xs:=Zcz s.ss) qr ?_ (ys:=eSurf x) qr ?_ (Zgo _) ?_ ?_ ?_ ?_;(exact (gwx HSv.out.ss));(exact (ltt 1));(unfold maxLen;omega);(omega);(first|omega|(simp<;>omega));rintro P7 k7 x7 gA7)
  have hsa:=gA7.2.2.2.1
  (try simp at hsa)
  have HSR7:=qh (SceneR x7 b [X] { s with ss:=s.ss++[x] } TX tc P pc P7 k7) ((HSv.out.step bll).surf (by intro z hz;simp at hz;subst hz;first|omega|(simp<;>omega)) gA7)
  have hXQ:X∉gOf Q:=λq=>HSv.out.ssz X q qs
  have ho2:Own x7 X 30 (cS s TX tc P pc Q qc):=(gA7.2.2.1.block X (by simp;omega) (by cases Q<;>simp_all [gOf])).trans (Own.alloc HXv.out _)
  have HO7:=hdQ ho2
  have HB7:=hdQ gA7.2.1
  have k107:x7.cell? ⟨X,10,none⟩=some (.slice Q s.ss.length qc):=ho2.cell 10
  have k97:x7.cell? ⟨X,9,none⟩=some (.slice P s.ps.length pc):=ho2.cell 9
  have kf:=ho2.frozen 10
  have kl:=ho2.lt
  clear gA7 ho2
  refine hK8.out _ _ (λ_=>⟨k107,k97⟩) (λhHeld8=>?_)
  have hS8:=hHeld8 qd
  refine tkM 9 ?_
  refine Zaa (i:=10) rfl kr (λK10 hK10=>?_)
  go_simp
  refine hK10.out _ _ (λh=>absurd rfl h) (λhHeld10=>?_)
  refine Zbd kr ?_ _
  have HOF:=qh (Own (x7.setCell ⟨X,10,none⟩ (.slice P7 (s.ss.length+1) k7)) X 30 (cS { s with ss:=s.ss++[x] } TX tc P pc P7 k7)) (by rw [<- cS_ss];exact HO7.out.set_ 10 _)
  have HSF:=qh (SceneR (x7.setCell ⟨X,10,none⟩ (.slice P7 (s.ss.length+1) k7)) b [X] { s with ss:=s.ss++[x] } TX tc P pc P7 k7) (HSR7.out.at_ (OnlyAt.setCell _ _ _ _))
  have HCF:=qh (Cur 125 (x7.setCell ⟨X,10,none⟩ (.slice P7 (s.ss.length+1) k7)) g A c l) ((Cur.stepB (HCv.out.alloc _) HB7.out qo).far (p:=⟨X,10,none⟩) (by show g<X;omega) _)
  have HYF:=qh (Own (x7.setCell ⟨X,10,none⟩ (.slice P7 (s.ss.length+1) k7)) w.heap.size 30 zS) ((Own.below (HYv.out.alloc _) HB7.out qo).far (p:=⟨X,10,none⟩) (by show w.heap.size≠X;omega) _)
  have HOFF:=qh (Only w.heap.size [g] w (x7.setCell ⟨X,10,none⟩ (.slice P7 (s.ss.length+1) k7))) ((Only.trans (HOv.out.alloc (by have:=HOv.out.size;omega) _) ((Only.of_below HB7.out [g]).mono qo (λx hx=>Or.inl hx)) (Nat.le_refl _) (λx hx=>hx)).up (p:=⟨X,10,none⟩) (by show w.heap.size<=X;omega) _)
  have HDF:=qh (SceneD { s with ss:=s.ss++[x] }) ⟨HD.out.cam,HD.out.tex,HD.out.side,HD.out.ps,(λq hq'=>by
   rcases List.mem_append.1 hq' with hq'|hq'
   ·exact HD.out.ss q hq'
   ·rw [List.mem_singleton.1 hq'];exact ⟨HXO.out,HXM.out⟩)⟩
  clear hS6 hS7 hS8
  have kz10:(x7.setCell ⟨X,10,none⟩ (.slice P7 (s.ss.length+1) k7)).cell? ⟨X,10,none⟩=some (.slice P7 (s.ss.length+1) k7):=(HOF.out.cell 10).trans (by show some (Value.slice P7 (s.ss++[x]).length k7)=_;rw [List.length_append];rfl)
  have hzW:u4.heap.size<=(x7.setCell ⟨X,10,none⟩ (.slice P7 (s.ss.length+1) k7)).heap.size:=by simp;omega
  have e1':((s.ss.length:Int)+1==0)=false:=by rw [beq_eq_false_iff_ne];omega
  obtain ⟨W7,hW7⟩:=qv (x7.setCell ⟨X,10,none⟩ (.slice P7 (s.ss.length+1) k7))
  rw [hW7] at HOF HSF HCF HYF HOFF kz10 hzW ⊢
  clear hW7
  go_wp2_with fail
  rw [rounds_succ]
  have HLD:=qh ((Instr.loadAt 30 (.pointer (some ⟨X,0,none⟩))).run Tryz.prog W7=.ok (.agg ⟨cS { s with ss:=s.ss++[x] } TX tc P pc P7 k7⟩) W7) (Zak (P:=Tryz.prog) Tryz.underlying30 rfl (by rw [Zbn];exact Za2) (λj v hv=>by rw [Nat.zero_add,HOF.out.cell];exact hv))
  obtain ⟨u7,hst,hs,hbk,hs7,e1,e2,e3⟩:=Zap (P:=Tryz.prog) (T:=30) (zs:=cS { s with ss:=s.ss++[x] } TX tc P pc P7 k7) (k:=0) HYF.out (by rw [Zbn];exact Za2) (by rw [Zbn];show 12<=12;omega) qr
  have HST7:=hdQ hst
  have HR:=qh (u7.heap[w.heap.size]? = some (.cells ⟨cS { s with ss:=s.ss++[x] } TX tc P pc P7 k7⟩ 30 (0,0))) (by have:=hs;unfold Own at this;rw [this];rw [Zbn];simp [zS])
  have hBl:Below (w.heap.size) W7 u7:=⟨e1,e2,e3,qo,λb h=>hbk b qo⟩
  have HC7:=qh (Cur 125 u7 g A c l) (HCF.out.stepB (B:=w.heap.size) hBl hg)
  have HO7:=qh (Only w.heap.size [g] w u7) (HOFF.out.trans (Only.of_below hBl []) (Nat.le_refl _) qs)
  have HS7:=qh (SceneR u7 b [] { s with ss:=s.ss++[x] } TX tc P pc P7 k7) ((HSF.out.keep qo (λx hx hl _=>hbk x qo)).fewer)
  have HSZ:=qh (b<=u7.heap.size) (by have:=HbX.out;have:=HOF.out.lt;rw [hs7];first|omega|(simp<;>omega))
  clear hst hs hbk e1 e2 e3 hBl
  go_wp2_with ((with_reducible refine Zbu ?_);first|(refine Zal rfl 30 (.tmp 3) rfl rfl HLD.out ?_)|(refine Zae rfl 30 (.tmp 2) (.tmp 20) rfl rfl rfl HST7.out ?_)|fail)
  refine bodyPost_ret (v:=.agg ⟨cS { s with ss:=s.ss++[x] } TX tc P pc P7 k7⟩) (results_cell_row Tryz.results38 _ _ w.heap.size _ _ (0,0) _ rfl HR.out Tryz.underlying30 rfl kr) rfl ?_
  exact ⟨{ s with ss:=s.ss++[x] },TX,tc,P,pc,P7,k7,b,rfl,qo,HSZ.out,HS7.out,HDF.out,HPS.out,⟨qs,by have:=HZ.out;simp;omega⟩,HC7.out,HO7.out⟩
 ·have e0:((s.ss.length:Int)==0)=false:=by rw [beq_eq_false_iff_ne];omega
  refine wp_loop_rounds 2 ?_
  rw [rounds_succ]
  have HLD:=qh ((Instr.loadAt 30 (.pointer (some ⟨X,0,none⟩))).run Tryz.prog u4=.ok (.agg ⟨cS s TX tc P pc Q qc⟩) u4) (Zak (P:=Tryz.prog) Tryz.underlying30 rfl (by rw [Zbn];exact Za2) (λj v hv=>by rw [Nat.zero_add,HX4.out.cell];exact hv))
  obtain ⟨u7,hst,hs,hbk,hs7,e1,e2,e3⟩:=Zap (P:=Tryz.prog) (T:=30) (zs:=cS s TX tc P pc Q qc) (k:=0) HY4.out (by rw [Zbn];exact Za2) (by rw [Zbn];show 12<=12;omega) qr
  have HST7:=hdQ hst
  have HR:=qh (u7.heap[w.heap.size]? = some (.cells ⟨cS s TX tc P pc Q qc⟩ 30 (0,0))) (by have:=hs;unfold Own at this;rw [this];rw [Zbn];simp [zS])
  have hBl:Below (w.heap.size) u4 u7:=⟨e1,e2,e3,qo,λb h=>hbk b qo⟩
  have HC7:=qh (Cur 125 u7 g A c l) (HC4.out.stepB (B:=w.heap.size) hBl hg)
  have HO7:=qh (Only w.heap.size [g] w u7) (HO4.out.trans (Only.of_below hBl []) (Nat.le_refl _) qs)
  have HS7:=qh (SceneR u7 b [] s TX tc P pc Q qc) ((HS4.out.keep qo (λx hx hl _=>hbk x qo)).fewer)
  have HSZ:=qh (b<=u7.heap.size) (by have:=HbX.out;have:=HX4.out.lt;rw [hs7];first|omega|(simp<;>omega))
  clear hst hs hbk e1 e2 e3 hBl
  go_wp2_with ((with_reducible refine Zbu ?_);first|(refine Zal rfl 30 (.tmp 3) rfl rfl HLD.out ?_)|(refine Zae rfl 30 (.tmp 2) (.tmp 20) rfl rfl rfl HST7.out ?_)|fail)
  refine bodyPost_ret (v:=.agg ⟨cS s TX tc P pc Q qc⟩) (results_cell_row Tryz.results38 _ _ w.heap.size _ _ (0,0) _ rfl HR.out Tryz.underlying30 rfl kr) rfl ?_
  exact ⟨s,TX,tc,P,pc,Q,qc,b,rfl,qo,HSZ.out,HS7.out,HD.out,HPS.out,⟨qo,HSS.out⟩,HC7.out,HO7.out⟩
theorem Zrx {c:Nat} {A:OA} {l:List Int} (w:World) (hl:l.length<=1048576) (h:RS w 1 A l.length c (u8s l)) :
  CL 10 #[.slice A l.length c] w λe w'=>∃ (s:EScene) (TX:OA) (tc:Nat) (P:OA) (pc:Nat) (Q:OA) (qc b:Nat),e=.returned (.agg ⟨cS s TX tc P pc Q qc⟩)/\w.heap.size<b/\b<=w'.heap.size/\SceneR w' b [] s TX tc P pc Q qc/\SceneD s/\(1<=s.ps.length/\s.ps.length<=2)/\(1<=s.ss.length/\s.ss.length<=3)/\Bw w w':=by
 have HR:=hdQ h
 clear h
 have hal:∀ wx:World,(Instr.alloc 30 true (.tuple #[])).run Tryz.prog wx=.ok (.pointer (some ⟨wx.heap.size,0,none⟩)) (wx.alloc (.cells ⟨zS⟩ 30)):=λwx=>by kernel_rfl
 obtain ⟨W0,hW0⟩:∃ W0,W0=w.alloc (.cells ⟨zS⟩ 30):=⟨_,rfl⟩
 have HR0:=qh (RS W0 1 A l.length c (u8s l)) (by rw [hW0];exact HR.out.alloc _)
 have HY0:=qh (Own W0 w.heap.size 30 zS) (by rw [hW0];exact Own.new w _ _)
 have HB0:=qh (Bw w W0) (by rw [hW0];exact (Below.refl _ _).alloc (Nat.le_refl _) _)
 have hz0:W0.heap.size=w.heap.size+1:=by rw [hW0];simp
 have HAL0:=qh ((Instr.alloc 30 true (.tuple #[])).run Tryz.prog w=.ok (.pointer (some ⟨w.heap.size,0,none⟩)) W0) (by rw [hW0];exact hal w)
 clear hW0 hal
 go_enter Tryz.func10,Tryz.ntmps10
 go_wp2_with ((with_reducible refine Zbu ?_);first|(refine Zah rfl 30 rfl HAL0.out ?_)|fail)
 (with_reducible refine (Ztn _ hl HR0.out).mono ?_)
 rintro e w1 ⟨g,rfl,hg,hc,hb⟩
 have hz1:=hb.size
 have HC:=hdQ hc
 have HB1:=qh (Bw w w1) (Below.step hb HB0.out qo)
 have HY1:=hdQ (Own.step hb HY0.out)
 clear hc hb
 go_wp2_with fail
 (with_reducible refine (Zu6 _ HC.out).mono ?_)
 rintro e w2 ⟨s,TX,tc,P,pc,Q,qc,b,rfl,hb0,hb1,hsr,hd,hps,hss,hc,hO⟩
 have hz2:=hO.size
 have HSR:=hdQ hsr
 have HD:=hdQ hd
 have HB2:=qh (Bw w w2) (HB1.out.trans (hO.below qo (λx hx=>by simp at hx;omega)))
 have HY2:=qh (Own w2 w.heap.size 30 zS) (hO.own HY1.out HY1.out.lt (by simp;omega))
 clear hsr hd hc hO
 obtain ⟨u7,hst,hs,hbk,hs7,e1,e2,e3⟩:=Zap (P:=Tryz.prog) (T:=30) (zs:=cS s TX tc P pc Q qc) (k:=0) HY2.out (by rw [Zbn];exact Za2) (by rw [Zbn];show 12<=12;omega) qr
 have HST7:=hdQ hst
 have HRR:=qh (u7.heap[w.heap.size]? = some (.cells ⟨cS s TX tc P pc Q qc⟩ 30 (0,0))) (by have:=hs;unfold Own at this;rw [this];rw [Zbn];simp [zS])
 have hBl:Below (w.heap.size) w2 u7:=⟨e1,e2,e3,qo,λb h=>hbk b qo⟩
 have HB7:=qh (Bw w u7) (HB2.out.trans hBl)
 have HS7:=qh (SceneR u7 b [] s TX tc P pc Q qc) (HSR.out.keep qo (λx hx hl _=>hbk x qo))
 clear hst hs hbk e1 e2 e3 hBl
 go_wp2_with ((with_reducible refine Zbu ?_);first|(refine Zae rfl 30 (.tmp 2) (.tmp 5) rfl rfl rfl HST7.out ?_)|fail)
 refine bodyPost_ret (v:=.agg ⟨cS s TX tc P pc Q qc⟩) (results_cell_row Tryz.results10 _ _ w.heap.size _ _ (0,0) _ rfl HRR.out Tryz.underlying30 rfl kr) rfl ?_
 exact ⟨s,TX,tc,P,pc,Q,qc,b,rfl,qo,qo,HS7.out,HD.out,hps,hss,HB7.out⟩
theorem Zoa {c:Nat} {A:OA} {l:List Int} (w:World) (hl:l.length<=1048576) (h:RS w 1 A l.length c (u8s l)) :
  CL 12 #[.slice A l.length c] w λe w'=>∃ x:Zbt,e=.returned (.agg ⟨eSurf x⟩)/\Zch 1 x=true/\Zrr x/\Bw w w':=by
 have HR:=hdQ h
 clear h
 have hal:∀ wx:World,(Instr.alloc 45 true (.tuple #[])).run Tryz.prog wx=.ok (.pointer (some ⟨wx.heap.size,0,none⟩)) (wx.alloc (.cells ⟨z26⟩ 45)):=λwx=>by kernel_rfl
 obtain ⟨W0,hW0⟩:∃ W0,W0=w.alloc (.cells ⟨z26⟩ 45):=⟨_,rfl⟩
 have HR0:=qh (RS W0 1 A l.length c (u8s l)) (by rw [hW0];exact HR.out.alloc _)
 have HY0:=qh (Own W0 w.heap.size 45 z26) (by rw [hW0];exact Own.new w _ _)
 have HB0:=qh (Bw w W0) (by rw [hW0];exact (Below.refl _ _).alloc (Nat.le_refl _) _)
 have hz0:W0.heap.size=w.heap.size+1:=by rw [hW0];simp
 have HAL0:=qh ((Instr.alloc 45 true (.tuple #[])).run Tryz.prog w=.ok (.pointer (some ⟨w.heap.size,0,none⟩)) W0) (by rw [hW0];exact hal w)
 clear hW0 hal
 go_enter Tryz.func12,Tryz.ntmps12
 go_wp2_with ((with_reducible refine Zbu ?_);first|(refine Zah rfl 45 rfl HAL0.out ?_)|fail)
 refine (Zx3 (n:=6) _ hl qd HR0.out).mono ?_
 rintro e w1 ⟨g,rfl,hg,hc,hb⟩
 have hz1:=hb.size
 have HC:=hdQ hc
 have HB1:=qh (Bw w w1) (Below.step hb HB0.out qo)
 have HY1:=hdQ (Own.step hb HY0.out)
 clear hc hb
 go_wp2_with fail
 (with_reducible refine (Zi4 (n:=1) _ HC.out qo).mono ?_)
 rintro e w2 ⟨x,rfl,hxo,hxm,hc,hO⟩
 have hz2:=hO.size
 have HXO:=hdQ hxo
 have HXM:=hdQ hxm
 have HB2:=qh (Bw w w2) (HB1.out.trans (hO.below qo (λx hx=>by simp at hx;omega)))
 have HY2:=qh (Own w2 w.heap.size 45 z26) (hO.own HY1.out HY1.out.lt (by simp;omega))
 clear hxo hxm hc hO
 obtain ⟨u7,hst,hs,hbk,hs7,e1,e2,e3⟩:=Zap (P:=Tryz.prog) (T:=45) (zs:=eSurf x) (k:=0) HY2.out (by rw [Zb7];exact Zcw) (by rw [Zb7];decide) qr
 have HST7:=hdQ hst
 have HRR:=qh (u7.heap[w.heap.size]? = some (.cells ⟨eSurf x⟩ 45 (0,0))) (by have:=hs;unfold Own at this;rw [this];rw [Zb7];simp [z26])
 have HB7:=qh (Bw w u7) (HB2.out.trans ⟨e1,e2,e3,qo,λb h=>hbk b qo⟩)
 clear hst hs hbk e1 e2 e3
 go_wp2_with ((with_reducible refine Zbu ?_);first|(refine Zae rfl 45 (.tmp 2) (.tmp 5) rfl rfl rfl HST7.out ?_)|fail)
 refine bodyPost_ret (v:=.agg ⟨eSurf x⟩) (results_cell_row Tryz.results12 _ _ w.heap.size _ _ (0,0) _ rfl HRR.out Tryz.underlying45 rfl kr) rfl ?_
 exact ⟨x,rfl,HXO.out,HXM.out,HB7.out⟩
end
section
open Go.ChangeShapes Go.WideShapes Go.ChangeAt Go.RowKit
def Ztp (laid:List (String×DataW Unit)) (F:FuncId) (ts:List TypeId):Prop :=
 ∀ (H:Type) (enc:TypeId×Value->H) (W:World) (base:Nat) (args:Array Value) (ds:List (DataW H)) (ps:List MemPlace),
  DataW.TrodAll enc Tryz.prog W 0 (λ_=>true) true ts args.toList ds ps->(∀ (j:Nat) t v,ts[j]? = some t->args[j]? = some v->Value.okWide Tryz.prog W .any base t v)->(∀ x∈ps,x.block<W.heap.size) ->
  (DataW.weightsEach Tryz.prog ts ds).all (· <= reachBytes)=true->laidMetH Tryz.prog laid W->W.ShapedOpen Tryz.prog ->
  CL F args W λe W'=>e=.returned (.bool true)/\Bw W W'
set_option maxRecDepth 100000 in
theorem Zrh (laid:List (String×DataW Unit)) (F:FuncId) (fn:Func) (s:ChangeSpec) (ts:List TypeId) (os:Os) (started:os.Started) (H:Type) (enc:TypeId×Value->H)
  (hfn:Tryz.checked.prog.funcs[F]? = some fn) (hidx:Tryz.checked.prog.inits.idxOf? F=none) (hp:fn.params=⟨ts⟩) (hr:fn.resultTypes = #[4]) (hv:s.vars=[])
  (hs:∀ ds:List (DataW H),ds.length=ts.length->(s.fn H (ds++[])).results=[.lit (.bool true)]/\(s.fn H (ds++[])).args=ds/\(s.fn H (ds++[])).vars=[])
  (hread:∀ t∈ts,Tryz.prog.readableRec t=true/\t<Tryz.prog.types.size)
  (hwit:∃ (w:World) (tape:Tape) (i:Input),w.os=os/\(w.forCall tape i).Shaped Tryz.checked.prog/\i.vars=[]/\Input.okWide Tryz.checked.prog (w.forCall tape i) .any w.heap.size F i /\
   ((s.pre enc Tryz.checked.prog fn [] false (w.forCall tape i).memory i.args/\laidMetH Tryz.prog laid (w.forCall tape i).memory)/\sizedMet enc Tryz.checked.prog fn (OpenSpec.ofChange s) false (w.forCall tape i).memory i.args)/\Assume.holds {} Tryz.checked.prog (lone (Frame.enter Tryz.checked.prog F i.args .normal) [] (w.forCall tape i)))
  (hw:Ztp laid F ts) :
  ReturnsInHanded {} Tryz.checked os F .any (λw args=>(s.pre enc Tryz.prog fn [] false w args/\laidMetH Tryz.prog laid w)/\sizedMet enc Tryz.prog fn (OpenSpec.ofChange s) false w args) (s.post enc Tryz.prog fn false true false false):=by
 refine returnsInHanded_of_calls (C:=Tryz.checked) P.own started hidx hwit ?_
 intro w0 tape0 i0 _ hsh _ hok hpre _
 obtain ⟨_,_,_,fn',hfn',_,_,_,_,hval00⟩:=hok
 obtain rfl:fn'=fn:=Option.some.inj (hfn'.symm.trans hfn)
 obtain ⟨⟨⟨ds,gs,before,hW0,hcnd⟩,hL0⟩,hz⟩:=hpre
 have hsz0:=hz.weights hW0
 suffices hgo:CL F i0.args (w0.forCall tape0 i0) λe W'=>∃ v,e=.returned v/\s.post enc Tryz.prog fn' false true false false (w0.forCall tape0 i0) i0.args v W' from
  hgo.mono λe W' ⟨v,he,hp⟩=>by subst he;exact ChangeSpec.post_blind hp
 have hW:=DataW.Whole.of_heap (w':=w0.forCall tape0 i0) qr hW0
 have hL:laidMetH Tryz.prog laid (w0.forCall tape0 i0):=laidMetH.of_heap qr hL0
 have hval0:=hval00
 clear hW0 hL0 hval00 hz
 generalize hWW:w0.forCall tape0 i0=W at *
 generalize hAA:i0.args=args at *
 generalize hBB:w0.heap.size=base at *
 clear hWW hAA hBB
 have hval:∀ (j:Nat) t v,fn'.params[j]? = some t->args[j]? = some v->Value.okWide Tryz.prog W .any base t v:=hval0
 have hW':=hW
 obtain ⟨p,q,hA0,hV,rfl,hfz,hnd⟩:=hW
 have hA:DataW.TrodAll enc Tryz.prog W 0 (λ_=>true) true fn'.params.toList args.toList ds p:=hA0
 rw [hv] at hV
 obtain ⟨rfl,rfl⟩:=trodVars_none hV
 have hsz:(DataW.weightsEach Tryz.prog ts ds).all (· <= reachBytes)=true:=by
  have e:s.plain.varTypes Tryz.prog=[]:=by
   have:s.plain.vars=[]:=hv
   simp [DataSpec.varTypes,this]
  have h0:(DataW.weightsEach Tryz.prog (fn'.params.toList++s.plain.varTypes Tryz.prog) (ds++[])).all (· <= reachBytes)=true:=hsz0
  rw [e,hp] at h0
  simpa using h0
 rw [hp] at hA hval
 have hlt:∀ x∈p,x.block<W.heap.size:=λx hx=>hW'.lt x (by simp [hx])
 have hl:ds.length=ts.length:=Zj5 ts _ _ _ hA
 obtain ⟨e1,e2,e3⟩:=hs ds hl
 simp only [List.append_nil] at hW'
 refine (hw H enc W base args ds p hA (λj t v h1 h2=>hval j t v (by simpa using h1) h2) hlt hsz hL hsh).mono λe W' ⟨he,bel⟩=>?_
 subst he
 refine ⟨_,rfl,_,_,_,[],p,[],hW', ?_, ?_, ?_,bel.frame _,λh=>by cases h⟩
 ·rw [e1,hr]
  exact trodAll_mk1 (shut_bool Tryz.underlying4 _)
 ·rw [e2,hp]
  exact Zh3 ts _ _ _ hread hA bel hlt
 ·rw [e3,hv]
  rfl
theorem H.et:Tryz.prog.globalNamed "errors.errorType" = some 1:=kr
theorem H.rt:(Tryz.prog.cutTypes.find? (·.1 == "internal/reflectlite.rtype")).map (·.2)=some 295:=kr
theorem H.oneRow:((List.range Tryz.prog.types.size).filter λt=>Tryz.prog.rowNamed t [101,114,114,111,114])=[132]:=kr
abbrev Zm0:List (String×DataW Unit):=[("errors.errorType",.iface "internal/reflectlite.rtype" (.agg [.ptr (.lit (.string [101,114,114,111,114]))]))]
theorem Zlw {W:World} (h:laidMetH Tryz.prog Zm0 W):W.cell? ⟨1,0,none⟩=some (.iface 295 (.agg #[.pointer (some ⟨9,132,none⟩)])):=by
 have h':laidMet Tryz.prog [] W/\handlesMet Tryz.prog Zm0 W:=h
 obtain ⟨name,u,ty,e1,e2,e3,e4,e5⟩:=h'.2 _ (List.mem_singleton.2 rfl)
 have en:name=[101,114,114,111,114]:=(Option.some.inj e1).symm
 subst en
 obtain rfl:=Option.some.inj (H.rt.symm.trans e2)
 have hm:ty∈(List.range Tryz.prog.types.size).filter λt=>Tryz.prog.rowNamed t [101,114,114,111,114]:=List.mem_filter.2 ⟨List.mem_range.2 e3,e4⟩
 rw [H.oneRow] at hm
 obtain rfl:=List.mem_singleton.1 hm
 have hh:typeHandle Tryz.prog 132=.pointer (some ⟨9,132,none⟩):=kr
 rw [hh] at e5
 simpa using World.var?_cell H.et e5 0
end
section
set_option maxRecDepth 100000
open Go.ChangeShapes Go.WideShapes Go.ChangeAt Go.RowKit Go.Lib
theorem Ziv (cs:List Value) (hl:cs.length=12) (h1:cs.all (·.oneCell')=true) (w:World):∃ w':World,(Instr.alloc 30 true (.tuple #[])).run Tryz.prog w=.ok (.pointer (some ⟨w.heap.size,0,none⟩)) (w.alloc (.cells ⟨zS⟩ 30))/\(Instr.storeAt 30 (.pointer (some ⟨w.heap.size,0,none⟩)) (.agg ⟨cs⟩)).run Tryz.prog (w.alloc (.cells ⟨zS⟩ 30))=.ok () w'/\Own w' w.heap.size 30 cs/\Bw w w'/\w'.heap.size=w.heap.size+1:=by
 obtain ⟨w2,hst,hs,hbk,hs2,e1,e2,e3⟩:=Zap (P:=Tryz.prog) (T:=30) (zs:=cs) (k:=0) (Own.new w 30 ⟨zS⟩) (by rw [hl];exact Za2) (by rw [hl];show 12<=12;omega) h1
 (try simp at hs2)
 refine ⟨w2,by kernel_rfl,hst, ?_, ?_,qo⟩
 ·have:=hs
  rw [hl] at this
  simpa [zS] using this
 ·exact ((Below.refl w.heap.size w).alloc (Nat.le_refl _) _).trans ⟨e1,e2,e3,by simp;omega,λb h=>hbk b qo⟩
theorem Zwb (cs:List Value) (hl:cs.length=26) (h1:cs.all (·.oneCell')=true) (w:World):∃ w':World,(Instr.alloc 45 true (.tuple #[])).run Tryz.prog w=.ok (.pointer (some ⟨w.heap.size,0,none⟩)) (w.alloc (.cells ⟨z26⟩ 45))/\(Instr.storeAt 45 (.pointer (some ⟨w.heap.size,0,none⟩)) (.agg ⟨cs⟩)).run Tryz.prog (w.alloc (.cells ⟨z26⟩ 45))=.ok () w'/\Own w' w.heap.size 45 cs/\Bw w w'/\w'.heap.size=w.heap.size+1:=by
 obtain ⟨w2,hst,hs,hbk,hs2,e1,e2,e3⟩:=Zap (P:=Tryz.prog) (T:=45) (zs:=cs) (k:=0) (Own.new w 45 ⟨z26⟩) (by rw [hl];exact Zjs) (by rw [hl];show 26<=26;omega) h1
 (try simp at hs2)
 refine ⟨w2,by kernel_rfl,hst, ?_, ?_,qo⟩
 ·have:=hs
  rw [hl] at this
  simpa [z26] using this
 ·exact ((Below.refl w.heap.size w).alloc (Nat.le_refl _) _).trans ⟨e1,e2,e3,by simp;omega,λb h=>hbk b qo⟩
theorem Zeh {w:World} {g:Nat} {cs:List Value} (hl:cs.length=12) (h:Own w g 30 cs):(Instr.loadAt 30 (.pointer (some ⟨g,0,none⟩))).run Tryz.prog w=.ok (.agg ⟨cs⟩) w :=
 Zak (P:=Tryz.prog) Tryz.underlying30 rfl (by rw [hl];exact Za2) (λj u hu=>by rw [Nat.zero_add,h.cell];exact hu)
theorem Zmh {w:World} {g:Nat} {cs:List Value} (hl:cs.length=26) (h:Own w g 45 cs):(Instr.loadAt 45 (.pointer (some ⟨g,0,none⟩))).run Tryz.prog w=.ok (.agg ⟨cs⟩) w :=
 Zak (P:=Tryz.prog) Tryz.underlying45 rfl (by rw [hl];exact Zjs) (λj u hu=>by rw [Nat.zero_add,h.cell];exact hu)
section
variable {P:Program} {ops:Array Oper} {S:World->Prop} {o:Oper} {v:Value} {a:Act}
theorem Zco {t:TypeId} {x:Operand} (ho:o.op=.load t x) (hw:Region.wanted o (yielded ops a.tmps)=true) {p:Value} (hx:a.eval x=p) (hr:∀ w,S w->(Instr.loadAt t p).run P w=.ok v w):YieldsIf P ops S o v a :=
 Or.inl ⟨hw,λw hS=>by
  unfold execOp
  simp only [ho,Sem.run_bind,Sem.run_pure,Result.andThen_ok,hx,hr w hS]⟩
theorem Zl9 {T T2:TypeId} {x y:Operand} (ho:o.op=.binOp .eql T x y T2) (hw:Region.wanted o (yielded ops a.tmps)=true) {p q:Array Value} (hx:a.eval x=.agg p) (hy:a.eval y=.agg q) (hg:P.eqGuardType P.depth T=false) (hr:∀ w,(binOp .eql T (.agg p) (.agg q)).run P w=.ok v w):YieldsIf P ops S o v a :=
 Or.inl ⟨hw,λw hS=>by
  have e:∀ w,(eqGuard .eql T x y (.agg p) (.agg q)).run P w=.ok () w:=λw=>by
   unfold eqGuard
   simp [program,Sem.run,hg]
  unfold execOp
  simp only [ho,Sem.run_bind,Sem.run_pure,Result.andThen_ok,hx,hy,e,hr w]⟩
end
theorem SceneR.q {w:World} {base:Nat} {Z:List Nat} {s:EScene} {T P Q:OA} {tc pc qc:Nat} (h:SceneR w base Z s T tc P pc Q qc) (hN:Zdp s):SceneQ w s T tc P pc Q qc:=by
 have hB:=h.ps.prB hN
 have hL:=h.lift hB
 exact ⟨hL.tex,hL.ps.progs hB,h.ss.rs⟩
theorem SceneR.i {w:World} {base:Nat} {Z:List Nat} {s:EScene} {T P Q:OA} {tc pc qc:Nat} (h:SceneR w base Z s T tc P pc Q qc) (hN:Zdp s):SceneIn w s T tc P pc Q qc:=by
 have hB:=h.ps.prB hN
 have hL:=h.lift hB
 exact ⟨hL.tex,hL.ps.progs hB,hL.ss.surfs⟩
theorem Zwa {w:World} {Q:OA} {qc:Nat} {l:List Zbt} {x:Zbt} {n:Nat} (h:RS w 26 Q n qc (Zcz (l++[x]))) (hn:n=l.length+1) :
  ∃ b o,Q=some ⟨b,o,none⟩/\b<w.heap.size/\∀ j u,(eSurf x)[j]? = some u->w.cell? ⟨b,o+l.length*26+j,none⟩=some u:=by
 obtain ⟨g1,g2,g3⟩:=h.open_
 obtain ⟨b,o,hA,hb,hc⟩:=g3 qo
 refine ⟨b,o,hA,hb,λj u hu=>?_⟩
 have hj:j<26:=by
  have:=(List.getElem?_eq_some_iff.1 hu).1
  rwa [Zb7] at this
 rw [Nat.add_assoc,hc _ qo,Zmm,List.getElem?_append_right (by rw [Zke];omega),Zke,Nat.add_sub_cancel_left]
 exact hu
set_option maxHeartbeats 64000000 in
theorem Zvc {A:OA} {c:Nat} {l:List Int} (w:World) (h:RS w 1 A l.length c (u8s l)) (he:Env w) (hE:Zna w) :
  CR 4 #[.slice A l.length c] w ((.bool true)):=by
 have hlm:=h.len
 unfold maxLen at hlm
 have HR:=hdQ h
 have HE:=hdQ hE
 have HV:=hdQ he
 clear h hE he
 rcases Nat.lt_or_ge 1048576 l.length with hbig|hl
 ·have hbig':(1048576:Int)<(l.length:Int):=by omega
  go_enter Tryz.func4,Tryz.ntmps4
  go_wp2_with fail
  go_ret
  exact ⟨rfl,bll⟩
 have hl':¬ (1048576:Int)<(l.length:Int):=qo
 go_enter Tryz.func4,Tryz.ntmps4
 go_wp2_with fail
 refine (Zrx _ hl HR.out).mono ?_
 rintro e w1 ⟨s,TX,tc,P,pc,Q,qc,b,rfl,hb1,hb2,hsr,hd,hps,hss,hbel⟩
 have hG:=hd.good ⟨hps.1,qo⟩ qo
 have HG:=hdQ hG.1
 have HN:=hdQ hG.2
 have HTL:=qh (s.tex.length<=256) (Zge hd.tex).2.2.1
 obtain ⟨u1,hal1,hst1,ho1,hbu1,hzu1⟩:=Ziv (cS s TX tc P pc Q qc) (Zbn _ _ _ _ _ _ _) rfl w1
 have hz1:=hbel.size
 have HAL1:=hdQ hal1
 have HST1:=hdQ hst1
 have HO1:=hdQ ho1
 have HB1:=qh (Bw w u1) (Below.step hbu1 hbel hz1)
 have HS1:=qh (SceneR u1 b [] s TX tc P pc Q qc) (hsr.step hbu1)
 have HLD1:=hdQ (Zeh (Zbn _ _ _ _ _ _ _) ho1)
 have HFS:=qh (CL 11 #[.agg ⟨cS s TX tc P pc Q qc⟩] u1 λe w'=>e=.returned (str (Zb0 s))/\Bw u1 w') (Zim u1 (HS1.out.i HN.out) ((HV.out.step HB1.out).tab) ((HV.out.step HB1.out).mlen))
 have HPS:=qh (∀ wx,Bw w wx->CL 6 #[str (Zb0 s)] wx (Ze7 s true wx)) (λwx hb=>by
  have ha:=Zu3 hG.1
  have:=Zil (Zb0 s) wx (by have:=Zt8 s;omega) (HV.out.step hb) (HE.out.step hb) ha.2
  rw [ha.1,if_pos rfl,Zpk hG.1] at this
  exact this)
 obtain ⟨B3,hB3⟩:∃ B3,B3=w1.heap.size:=⟨_,rfl⟩
 rw [<- hB3] at hal1 hst1 HAL1 HST1 HO1 HLD1 hzu1
 have HBB3:=hdQ hB3
 clear hB3
 clear hal1 hst1 ho1 hbu1 hbel hsr hG
 go_wp2_with ((with_reducible refine Zdc ?_);first|(refine Zah rfl 30 rfl HAL1.out ?_)|(refine Zae rfl 30 (.tmp 3) (.tmp 13) rfl rfl rfl HST1.out ?_)|(refine Zal rfl 30 (.tmp 3) rfl rfl HLD1.out ?_)|fail)
 refine HFS.out.mono ?_
 rintro e w2 ⟨rfl,hb2_⟩
 have hz2:=hb2_.size
 have HB2:=qh (Bw w w2) (Below.step hb2_ HB1.out HB1.out.size)
 have HB12:=hdQ hb2_
 clear hb2_ HAL1 HST1 HLD1 HFS
 go_wp2_with fail
 refine (HPS.out _ HB2.out).mono ?_
 rintro e w3 ⟨T2,t2,P2,p2,Q2,q2,bb,rfl,hbb1,hbb2,hsr2,hb3⟩
 have hz3:=hb3.size
 obtain ⟨u3,hal3,hst3,ho3,hbu3,hzu3⟩:=Ziv (cS s T2 t2 P2 p2 Q2 q2) (Zbn _ _ _ _ _ _ _) rfl w3
 have HAL3:=hdQ hal3
 have HST3:=hdQ hst3
 have HO3:=hdQ ho3
 have HB13:=qh (Bw u1 u3) (Below.step hbu3 (Below.step hb3 HB12.out hz2) qo)
 have HB3:=qh (Bw w u3) (HB1.out.trans (HB13.out.mono HB1.out.size))
 have HS3:=qh (SceneR u3 bb [] s T2 t2 P2 p2 Q2 q2) (hsr2.step hbu3)
 have HMS:=qh (CL 12 #[.slice A l.length c] u3 λe w'=>∃ x:Zbt,e=.returned (.agg ⟨eSurf x⟩)/\Zch 1 x=true/\Zrr x/\Bw u3 w') (Zoa u3 hl (RS.step HB3.out HR.out))
 obtain ⟨B4,hB4⟩:∃ B4,B4=w3.heap.size:=⟨_,rfl⟩
 rw [<- hB4] at HAL3 HST3 HO3 hzu3
 have HBB4:=hdQ hB4
 clear hB4
 clear hal3 hst3 ho3 hbu3 hb3 hsr2
 go_wp2_with ((with_reducible refine Zdc ?_);first|(refine Zah rfl 30 rfl HAL3.out ?_)|(refine Zae rfl 30 (.tmp 4) (.tmp 18) rfl rfl rfl HST3.out ?_)|fail)
 refine HMS.out.mono ?_
 rintro e w4 ⟨x,rfl,hxo,hxm,hb4⟩
 have hz4:=hb4.size
 obtain ⟨u4,hal4,hst4,ho4,hbu4,hzu4⟩:=Zwb (eSurf x) (Zb7 x) rfl w4
 have HXO:=hdQ hxo
 have HAL4:=hdQ hal4
 have HST4:=hdQ hst4
 have HO4:=hdQ ho4
 have HB34:=qh (Bw u3 u4) (Below.step hbu4 hb4 hz4)
 have HB14:=qh (Bw u1 u4) (HB13.out.trans (HB34.out.mono HB13.out.size))
 have HLD4:=hdQ (Zeh (Zbn _ _ _ _ _ _ _) (HO1.out.step HB14.out))
 have HLS4:=hdQ (Zmh (Zb7 x) ho4)
 have HAS:=qh (CL 13 #[.agg ⟨cS s TX tc P pc Q qc⟩,.agg ⟨eSurf x⟩] u4 (Ze7 { s with ss:=s.ss++[x] } true u4)) (Zqp u4 (HS1.out.step HB14.out) HN.out HG.out.ok hxo (by have:=HTL.out;omega) qo qo)
 obtain ⟨B6,hB6⟩:∃ B6,B6=w4.heap.size:=⟨_,rfl⟩
 rw [<- hB6] at HAL4 HST4 HO4 HLS4 hzu4
 have HBB6:=hdQ hB6
 clear hB6
 clear hal4 hst4 ho4 hbu4 hb4 hxo HAL3 HST3 HMS
 go_wp2_with ((with_reducible refine Zdc ?_);first|(refine Zah rfl 45 rfl HAL4.out ?_)|(refine Zae rfl 45 (.tmp 6) (.tmp 21) rfl rfl rfl HST4.out ?_)|(refine Zal rfl 30 (.tmp 3) rfl rfl HLD4.out ?_)|(refine Zal rfl 45 (.tmp 6) rfl rfl HLS4.out ?_)|fail)
 have HS7X:=hdQ (rfl:s=s)
 refine HAS.out.mono ?_
 obtain ⟨s7,hs7⟩:∃ s7,s7={ s with ss:=s.ss++[x] }:=⟨_,rfl⟩
 rw [<- hs7]
 rintro e w5 ⟨T7,t7,P7,p7,Q7,q7,b7,rfl,hb71,hb72,hsr7,hb5⟩
 have hz5:=hb5.size
 obtain ⟨u5,hal5,hst5,ho5,hbu5,hzu5⟩:=Ziv (cS s7 T7 t7 P7 p7 Q7 q7) (Zbn _ _ _ _ _ _ _) rfl w5
 have HAL5:=hdQ hal5
 have HST5:=hdQ hst5
 have HO5:=hdQ ho5
 have HB45:=qh (Bw u4 u5) (Below.step hbu5 hb5 hz5)
 have HB35:=qh (Bw u3 u5) (HB34.out.trans (HB45.out.mono HB34.out.size))
 have HB15:=qh (Bw u1 u5) (HB13.out.trans (HB35.out.mono HB13.out.size))
 have HB5:=qh (Bw w u5) (HB1.out.trans (HB15.out.mono HB1.out.size))
 have HOA:=qh (Own u5 B3 30 (cS s TX tc P pc Q qc)) (HO1.out.step HB15.out)
 have HOB:=qh (Own u5 B4 30 (cS s T2 t2 P2 p2 Q2 q2)) (HO3.out.step HB35.out)
 have HOC:=qh (Own u5 B6 45 (eSurf x)) (HO4.out.step HB45.out)
 have HN7:=qh (Zdp s7) (by rw [hs7];exact HN.out)
 have HQ1:=qh (SceneQ u5 s TX tc P pc Q qc) ((HS1.out.step HB15.out).q HN.out)
 have HQ2:=qh (SceneQ u5 s T2 t2 P2 p2 Q2 q2) ((HS3.out.step HB35.out).q HN.out)
 have HQ7:=qh (SceneQ u5 s7 T7 t7 P7 p7 Q7 q7) ((hsr7.step hbu5).q HN7.out)
 have hn7:s7.ss.length=s.ss.length+1:=by rw [hs7];simp
 obtain ⟨gb,go,hQ7,hgb,hgc⟩:=Zwa (l:=s.ss) (x:=x) (by have:=HQ7.out.ss;rw [hs7] at this ⊢;exact this) hn7
 have HGC:=hdQ hgc
 obtain ⟨B7,hB7⟩:∃ B7,B7=w5.heap.size:=⟨_,rfl⟩
 rw [<- hB7] at HAL5 HST5 HO5 hzu5
 have HBB7:=hdQ hB7
 clear hB7
 have HC1:=qh (∀ wx,Bw u5 wx->CR 14 #[.agg ⟨cS s TX tc P pc Q qc⟩,.agg ⟨cS s T2 t2 P2 p2 Q2 q2⟩] wx (.bool true)) (λwx hb=>by
  have h1:=HQ1.out.step hb
  have h2:=HQ2.out.step hb
  exact Zlm wx h1.tex h2.tex h1.ps h2.ps h1.ss h2.ss rfl)
 have HC2:=qh (∀ wx,Bw u5 wx->CR 14 #[.agg ⟨cS s TX tc P pc Q qc⟩,.agg ⟨cS s7 T7 t7 P7 p7 Q7 q7⟩] wx (.bool false)) (λwx hb=>by
  have h1:=HQ1.out.step hb
  have h2:=HQ7.out.step hb
  rw [hs7] at h2 ⊢
  exact Zl4 wx h1.tex h2.tex h1.ps h2.ps (n:=(s.ss++[x]).length) qs)
 have HC3:=qh (∀ wx,CR 15 #[.agg ⟨eSurf x⟩,.int .i64 0] wx (Zbv x.1)) (λwx=>Zqm wx HXO.out)
 have HLA:=qh (∀ wx,Bw u5 wx->(Instr.loadAt 30 (.pointer (some ⟨B3,0,none⟩))).run Tryz.prog wx=.ok (.agg ⟨cS s TX tc P pc Q qc⟩) wx) (λwx hb=>Zeh (Zbn _ _ _ _ _ _ _) (HOA.out.step hb))
 have HLB:=qh (∀ wx,Bw u5 wx->(Instr.loadAt 30 (.pointer (some ⟨B4,0,none⟩))).run Tryz.prog wx=.ok (.agg ⟨cS s T2 t2 P2 p2 Q2 q2⟩) wx) (λwx hb=>Zeh (Zbn _ _ _ _ _ _ _) (HOB.out.step hb))
 have HLC:=qh (∀ wx,Bw u5 wx->(Instr.loadAt 45 (.pointer (some ⟨B6,0,none⟩))).run Tryz.prog wx=.ok (.agg ⟨eSurf x⟩) wx) (λwx hb=>Zmh (Zb7 x) (HOC.out.step hb))
 have HLD:=qh (∀ wx,Bw u5 wx->(Instr.loadAt 30 (.pointer (some ⟨B7,0,none⟩))).run Tryz.prog wx=.ok (.agg ⟨cS s7 T7 t7 P7 p7 Q7 q7⟩) wx) (λwx hb=>Zeh (Zbn _ _ _ _ _ _ _) (HO5.out.step hb))
 have HLP:=qh (∀ wx,Bw u5 wx->(Instr.loadAt 43 (.pointer (some ⟨B6,0,none⟩))).run Tryz.prog wx=.ok (Zbv x.1) wx) (λwx hb=>by
  have h1:=HOC.out.step hb
  have:=Zak (P:=Tryz.prog) (T:=43) (w:=wx) (b:=B6) (o:=0) (cs:=c12 x.1) Tryz.underlying43 rfl (by rw [Zbs];kernel_rfl) (λj v hv=>by rw [Nat.zero_add,h1.cell];exact Zlx (p:=x.1) (q:=x.2.1) (sh:=x.2.2.1) (rt:=x.2.2.2) hv)
  rw [Zrm]
  exact this)
 have HLE:=qh (∀ wx,Bw u5 wx->(Instr.loadAt 45 (.pointer (some ⟨gb,go+s.ss.length*26,none⟩))).run Tryz.prog wx=.ok (.agg ⟨eSurf x⟩) wx) (λwx hb=>Zak (P:=Tryz.prog) Tryz.underlying45 rfl (by rw [Zb7];exact Zjs) (λj u hu=>by rw [hb.cell (p:=⟨gb,_,none⟩) hgb];exact HGC.out j u hu))
 have HK3:=qh (∀ wx,Bw u5 wx->wx.cell? ⟨B3,10,none⟩=some (.slice Q s.ss.length qc)) (λwx hb=>(HOA.out.step hb).cell 10)
 have HK7:=qh (∀ wx,Bw u5 wx->wx.cell? ⟨B7,10,none⟩=some (.slice Q7 (s.ss.length+1) q7)) (λwx hb=>by rw [<- hn7];exact (HO5.out.step hb).cell 10)
 have HES:=qh (∀ wx,(binOp .eql 45 (.agg ⟨eSurf x⟩) (.agg ⟨eSurf x⟩)).run Tryz.prog wx=.ok (.bool true) wx) (λwx=>eqlSurf x wx)
 have HEP:=qh (∀ wx,(binOp .eql 43 (Zbv x.1) (Zbv x.1)).run Tryz.prog wx=.ok (.bool true) wx) (λwx=>eqlPatch x.1 wx)
 have hsl:s.ss.length<=3:=hss.2
 have hadd:IntKind.i64.wrap ((s.ss.length:Int)+1)=((s.ss.length+1:Nat):Int):=by rw [show (s.ss.length:Int)+1=((s.ss.length+1:Nat):Int) by omega];exact IntWalk.i64_in _ qo
 rw [hQ7] at HK7
 generalize cS s TX tc P pc Q qc=E1 at *
 generalize cS s T2 t2 P2 p2 Q2 q2=E2 at *
 generalize cS s7 T7 t7 P7 p7 Q7 q7=E7 at *
 rw [Zrm] at HC3 HLP HEP
 obtain ⟨PC,hpt⟩:=qv (c12 x.1)
 rw [hpt] at HC3 HLP HEP
 generalize eSurf x=X at *
 obtain ⟨n,hn⟩:∃ n,n=s.ss.length:=⟨_,rfl⟩
 rw [<- hn] at HLE HK3 HK7 hsl hadd
 have HNN:=hdQ hn
 clear hn
 clear hal5 hst5 ho5 hbu5 hb5 hsr7 hgc HAS HAL4 HST4 HLD4 HLS4 HO1 HO3 HO4 HS1 HS3 HQ1 HQ2 HQ7 HB14 HB13 HB34 HB45 HB12 HB1 HB2 HB3 HPS HGC hn7 hs7 hQ7 hpt
 go_wp2_with ((with_reducible refine Zdc ?_);first|(refine Zah rfl 30 rfl HAL5.out ?_)|(refine Zae rfl 30 (.tmp 7) (.tmp 26) rfl rfl rfl HST5.out ?_)|fail)
 clear HAL5 HST5
 refine wp_region_held_drew (S:=λw'=>Bw u5 w') kr ((Below.refl u5.heap.size u5).drew) (λhHeld0=>?_)
 refine tkH 0 ?_;(try simp only [LO,Act.put])
 refine tkH 1 ?_;(try simp only [LO,Act.put])
 (refine wpAnyH_take (i:=2) (v:=.agg ⟨E1⟩) rfl kr kr kr (λ_ _ _ h=>h) (Zco rfl qr rfl HLA.out) ‹_› ?_);(try simp only [LO,Act.put])
 (refine wpAnyH_take (i:=3) (v:=.agg ⟨E2⟩) rfl kr kr kr (λ_ _ _ h=>h) (Zco rfl qr rfl HLB.out) ‹_› ?_);(try simp only [LO,Act.put])
 refine wpAnyH_ready (rs:=[4]) kr qs ?_
 refine AllReadyH.cons rfl (λK hK=>?_) AllReadyH.nil
 go_simp
 (with_reducible refine (HC1.out _ hHeld0).mono ?_)
 rintro e wA1 ⟨rfl,hbA1⟩
 have hzA1:=hbA1.size
 (try go_wp2_with fail)
 refine hK.out _ _ (Below.step hbA1 hHeld0 (hHeld0).size) (λhHeld1=>?_)
 clear hK K
 (try simp only [LO,Act.put])
 refine tkH 5 ?_;(try simp only [LO,Act.put])
 refine tkH 6 ?_;(try simp only [LO,Act.put])
 refine tkH 7 ?_;(try simp only [LO,Act.put])
 refine tkH 8 ?_;(try simp only [LO,Act.put])
 refine tkH 9 ?_;(try simp only [LO,Act.put])
 refine tkH 10 ?_;(try simp only [LO,Act.put])
 (refine wpAnyH_take (i:=11) (v:=.slice (some ⟨gb,go,none⟩) (n+1) q7) rfl kr kr kr (λ_ _ _ h=>h) (Or.inl ⟨qr, ?_⟩) ‹_› ?_;focus (intro wz hSw;have hk:=HK7.out wz hSw;go_simp;try with_reducible rfl));(try simp only [LO,Act.put])
 refine tkH 12 ?_;(try simp only [LO,Act.put])
 refine tkH 13 ?_;(try simp only [LO,Act.put])
 (refine wpAnyH_take (i:=14) (v:=.slice Q n qc) rfl kr kr kr (λ_ _ _ h=>h) (Or.inl ⟨qr, ?_⟩) ‹_› ?_;focus (intro wz hSw;have hk:=HK3.out wz hSw;go_simp;try with_reducible rfl));(try simp only [LO,Act.put])
 refine tkH 15 ?_;(try simp only [LO,Act.put])
 refine tkH 16 ?_;(try simp only [LO,Act.put])
 refine tkH 17 ?_;(try simp only [LO,Act.put])
 refine tkH 18 ?_;(try simp only [LO,Act.put])
 refine tkH 19 ?_;(try simp only [LO,Act.put])
 refine tkH 20 ?_;(try simp only [LO,Act.put])
 (refine wpAnyH_take (i:=21) (v:=.slice (some ⟨gb,go,none⟩) (n+1) q7) rfl kr kr kr (λ_ _ _ h=>h) (Or.inl ⟨qr, ?_⟩) ‹_› ?_;focus (intro wz hSw;have hk:=HK7.out wz hSw;go_simp;try with_reducible rfl));(try simp only [LO,Act.put])
 refine tkH 22 ?_;(try simp only [LO,Act.put])
 (refine wpAnyH_take (i:=23) (v:=.slice Q n qc) rfl kr kr kr (λ_ _ _ h=>h) (Or.inl ⟨qr, ?_⟩) ‹_› ?_;focus (intro wz hSw;have hk:=HK3.out wz hSw;go_simp;try with_reducible rfl));(try simp only [LO,Act.put])
 refine tkH 24 ?_;(try simp only [LO,Act.put])
 (refine wpAnyH_take (i:=25) (v:=.pointer (some ⟨gb,go+n*26,none⟩)) rfl kr kr kr (λ_ _ _ h=>h) (Or.inl ⟨qr, ?_⟩) ‹_› ?_;focus (intro wz hSw;have i0:(0:Int)<=n:=qo;have i1:(n:Int)<((n+1:Nat):Int):=qo;have i2:(n:Int)<(n:Int)+1:=qo;go_simp;try with_reducible rfl));(try simp only [LO,Act.put])
 (refine wpAnyH_take (i:=26) (v:=.agg ⟨X⟩) rfl kr kr kr (λ_ _ _ h=>h) (Zco rfl qr rfl HLE.out) ‹_› ?_);(try simp only [LO,Act.put])
 (refine wpAnyH_take (i:=27) (v:=.agg ⟨X⟩) rfl kr kr kr (λ_ _ _ h=>h) (Zco rfl qr rfl HLC.out) ‹_› ?_);(try simp only [LO,Act.put])
 (refine wpAnyH_take (i:=28) (v:=.bool true) rfl kr kr kr (λ_ _ _ h=>h) (Zl9 rfl qr rfl rfl kr HES.out) ‹_› ?_);(try simp only [LO,Act.put])
 refine tkH 29 ?_;(try simp only [LO,Act.put])
 refine tkH 30 ?_;(try simp only [LO,Act.put])
 (refine wpAnyH_take (i:=31) (v:=.agg ⟨E1⟩) rfl kr kr kr (λ_ _ _ h=>h) (Zco rfl qr rfl HLA.out) ‹_› ?_);(try simp only [LO,Act.put])
 (refine wpAnyH_take (i:=32) (v:=.agg ⟨E7⟩) rfl kr kr kr (λ_ _ _ h=>h) (Zco rfl qr rfl HLD.out) ‹_› ?_);(try simp only [LO,Act.put])
 refine wpAnyH_ready (rs:=[33]) kr qs ?_
 refine AllReadyH.cons rfl (λK hK=>?_) AllReadyH.nil
 go_simp
 (with_reducible refine (HC2.out _ hHeld1).mono ?_)
 rintro e wA2 ⟨rfl,hbA2⟩
 have hzA2:=hbA2.size
 (try go_wp2_with fail)
 refine hK.out _ _ (Below.step hbA2 hHeld1 (hHeld1).size) (λhHeld2=>?_)
 clear hK K
 (try simp only [LO,Act.put])
 refine tkH 34 ?_;(try simp only [LO,Act.put])
 refine tkH 35 ?_;(try simp only [LO,Act.put])
 refine tkH 36 ?_;(try simp only [LO,Act.put])
 (refine wpAnyH_take (i:=37) (v:=.agg ⟨X⟩) rfl kr kr kr (λ_ _ _ h=>h) (Zco rfl qr rfl HLC.out) ‹_› ?_);(try simp only [LO,Act.put])
 refine tkH 39 ?_;(try simp only [LO,Act.put])
 (refine wpAnyH_take (i:=40) (v:=.agg ⟨PC⟩) rfl kr kr kr (λ_ _ _ h=>h) (Zco rfl qr rfl HLP.out) ‹_› ?_);(try simp only [LO,Act.put])
 refine wpAnyH_ready (rs:=[38]) kr qs ?_
 refine AllReadyH.cons rfl (λK hK=>?_) AllReadyH.nil
 go_simp
 (with_reducible refine (HC3.out _).mono ?_)
 rintro e wA3 ⟨rfl,hbA3⟩
 have hzA3:=hbA3.size
 (try go_wp2_with fail)
 refine hK.out _ _ (Below.step hbA3 hHeld2 (hHeld2).size) (λhHeld3=>?_)
 clear hK K
 (try simp only [LO,Act.put])
 (refine wpAnyH_take (i:=41) (v:=.bool true) rfl kr kr kr (λ_ _ _ h=>h) (Zl9 rfl qr rfl rfl kr HEP.out) ‹_› ?_);(try simp only [LO,Act.put])
 refine tkH 42 ?_;(try simp only [LO,Act.put])
 refine tkH 43 ?_;(try simp only [LO,Act.put])
 refine wpAnyH_done kr ?_ _
 go_wp2_with fail
 go_ret
 exact ⟨rfl,HB5.out.trans (hHeld3.mono HB5.out.size)⟩
theorem Env.of_laidH {W:World} {l:List (String×DataW Unit)} (h:laidMetH Tryz.prog l W) (hsh:W.ShapedOpen Tryz.prog) (e0:((l.filter λx=>x.2.handleName?.isNone).filter λx=>x.1 == "internal/strconv.uint64pow10")=[("internal/strconv.uint64pow10",Rows.laid_internal_strconv_uint64pow10)]:=by rfl) (e1:((l.filter λx=>x.2.handleName?.isNone).filter λx=>x.1 == "strconv.ErrRange")=[("strconv.ErrRange",Rows.laid_strconv_ErrRange)]:=by rfl) (e2:((l.filter λx=>x.2.handleName?.isNone).filter λx=>x.1 == "strconv.ErrSyntax")=[("strconv.ErrSyntax",Rows.laid_strconv_ErrSyntax)]:=by rfl):Env W:=Env.of_laid (laidMetH_iff.1 h).1 hsh e0 e1 e2
def Zdz (cs:Array Value):Obj->Obj
 | .cells _ t frozen=>.cells cs t frozen
 | o=>o
def Zgl:DataW Unit->Array Value
 | .agg l=>(l.flatMap fun | .lit (.int k z)=>[Value.int k z] | .agg m=>m.map (fun | .lit (.int k z)=>Value.int k z|_=>.nilIface)|_=>[.nilIface]).toArray
 | _ => #[]
noncomputable def lowT:Nat:=(World.holding Tryz.prog default ⟨#[],#[],[]⟩).heap.size
noncomputable def Zc9 (os:Os):World :=
 let w0:=World.holding Tryz.prog os ⟨#[.cells #[.string ⟨#[118,97,108,117,101,32,111,117,116,32,111,102,32,114,97,110,103,101]⟩] 320,.cells #[.string ⟨#[105,110,118,97,108,105,100,32,115,121,110,116,97,120]⟩] 320],#[],[]⟩
 { w0 with heap:=(((((((w0.heap.modify 6 (Zdz (Zgl Rows.laid_internal_strconv_uint64pow10))).modify 7 (Zdz (Zgl Rows.laid_math_bits_deBruijn32tab))).modify 8 (Zdz (Zgl Rows.laid_math_bits_deBruijn64tab))).modify 3 (Zdz (Zgl Rows.laid_unicode_utf8_acceptRanges))).modify 2 (Zdz (Zgl Rows.laid_unicode_utf8_first))).modify 5 (Zdz #[.iface 318 (.pointer (some ⟨lowT,0,none⟩))])).modify 4 (Zdz #[.iface 318 (.pointer (some ⟨lowT+1,0,none⟩))])).modify 1 (Zdz #[.iface 295 (.agg #[.pointer (some ⟨9,132,none⟩)])]) }
def Zez:List (String×DataW Unit):=[("math/bits.deBruijn32tab",Rows.laid_math_bits_deBruijn32tab),("math/bits.deBruijn64tab",Rows.laid_math_bits_deBruijn64tab),("internal/strconv.uint64pow10",Rows.laid_internal_strconv_uint64pow10),("unicode/utf8.acceptRanges",Rows.laid_unicode_utf8_acceptRanges),("errors.errorType",Rows.laid_errors_errorType),("strconv.ErrRange",Rows.laid_strconv_ErrRange),("strconv.ErrSyntax",Rows.laid_strconv_ErrSyntax),("unicode/utf8.first",Rows.laid_unicode_utf8_first)]
theorem FnScenes_walk:Ztp Zez 4 [36]:=by
 intro H enc W base args ds ps hA hval hlt hsz hL hsh
 obtain ⟨v0,rfl,h0⟩:=args1 hA hval
 obtain ⟨A,c,l,rfl,h⟩:=h0.bytes
 exact Zvc W h (Env.of_laidH hL hsh) (Zlw (laidMetH.filter (λx=>x.1 == "errors.errorType") hL))
end
end Go.Proofs.YticdknjoapdmeaaGreatDoor
