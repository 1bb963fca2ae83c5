/- Several texts in one: LawD, TxtF, TxtE, Within, TxtJ, TxtKN, Divs, Vec, Camera, Texel, SceneP, SplP, Spl, TxtQ, TxtR, PInts, LexP, ParP, LexQ, GramP, ScP, ScQ, BigW, RowsP, RowsN, RowsG, VecB, VecW, ImageV, NewRows. -/
import Derived.Test.YticdknjoapdmeaaGreatDoorMa
import Derived.LaidLaws
import Derived.Handed
import Derived.SevenTiedAt
import Derived.SizedLaws
import Derived.Stop.LaidErr
import Derived.Test.YticdknjoapdmeaaGreatDoorTie
import Derived.Test.YticdknjoapdmeaaGreatDoorCards
import Derived.Test.YticdknjoapdmeaaGreatDoorShelfD
import Derived.LaidSub
import Derived.StillTailTactics
import Derived.Deep.RegionHeld3
import Derived.BigQuiet
import Derived.Deep.QuietTactic
import Derived.WalkSpells
import Derived.Lib.IndexMore
import Derived.Lib.IndexBytes
import Derived.Laws.Rows
import Derived.Laws.Tables
import Derived.RegionTactic
import Derived.Laws.CopyRow
import Derived.Deep.Cut
import Derived.Laws.StructEq
import Derived.Deep.DeepCutAuto
set_option linter.unusedVariables false
set_option linter.unusedSimpArgs false
set_option linter.unnecessarySimpa false
namespace Go.Proofs.YticdknjoapdmeaaGreatDoor
set_option maxHeartbeats 8000000
section
open Go.ChangeShapes Go.WideShapes Go.ChangeAt Go.RowKit
end
section
set_option maxRecDepth 100000
open Go.RowKit Go.Lib
def Tab (w:World):Prop:=TabIs Tryz.prog w "internal/strconv.uint64pow10" .u64 pow10Tab
theorem Tab.step {w w':World} (h:Tab w) (hb:Bw w w'):Tab w':=by
 unfold Tab TabIs World.var? at *
 rw [show Tryz.prog.globalNamed "internal/strconv.uint64pow10" = some 6 by kernel_rfl] at *
 simp only [Option.bind_some] at *
 have hlt:6<w.heap.size:=by
  rcases Nat.lt_or_ge 6 w.heap.size with h'|h'
  ·exact h'
  ·simp [Array.getElem?_eq_none h'] at h
 rw [hb.block _ hlt]
 exact h
theorem Tab.trans {B:Nat} {w w':World} (h:Tab w) (hb:Below B w w') (hB:B=w.heap.size):Tab w':=h.step (by subst hB;exact hb)
theorem Zu0 {w:World} (k:Nat) (os:Array Obj):Bw w (Sort.grow (w.drewN k) os) :=
 ⟨rfl,rfl,rfl,by simp [Sort.grow,World.drewN],λj hj=>by
  show (w.heap++os)[j]? = w.heap[j]?
  rw [Array.getElem?_append_left hj]⟩
theorem Zdv (n:Int) (w:World) (ht:Tab w) :
  CR 42 #[.int .i64 n] w ((str (fmtI n))):=by
 by_cases hn:Zca n
 ·have h1:¬ n < -1000000000:=by have:=hn.1;omega
  have h2:¬ 1000000000<n:=by have:=hn.2;omega
  have HF:=hdQ (Zi0 hn)
  clear hn
  go_enter Tryz.func42,Tryz.ntmps42
  go_wp2_with fail
  refine (Tryz.strconv_Itoa n qo qo _ ht).mono ?_
  rintro e w' ⟨rfl,k,os,rfl⟩
  go_wp2_with fail
  go_ret
  exact ⟨by rw [HF.out];rfl,Zu0 k os⟩
 ·have HF:=hdQ (Zjx hn)
  by_cases h1:n < -1000000000
  ·clear hn
   go_enter Tryz.func42,Tryz.ntmps42
   go_wp2_with fail
   go_ret
   exact ⟨by rw [HF.out];rfl,bll⟩
  ·have h2:1000000000<n:=by unfold Zca at hn;omega
   clear hn
   go_enter Tryz.func42,Tryz.ntmps42
   go_wp2_with fail
   go_ret
   exact ⟨by rw [HF.out];rfl,bll⟩
theorem Zqw {W:World} {l:List (String×DataW Unit)} (h:laidMet Tryz.prog l W) (e:(l.filter λx=>x.1 == "internal/strconv.uint64pow10")=[("internal/strconv.uint64pow10",Rows.laid_internal_strconv_uint64pow10)]:=by rfl):Tab W :=
 tabIs_of_head (k:=.u64) (zs:=pow10Tab) (rest:=[]) (e:=269) (n:=20) (show Tryz.prog.globalNamed "internal/strconv.uint64pow10" = some 6 by kernel_rfl) (show (Tryz.prog.globals[6]?).map (·.type)=some 311 by kernel_rfl) Tryz.underlying311 Tryz.underlying269 kr kr (by have h2:=laidMet.filter (λx=>x.1 == "internal/strconv.uint64pow10") h;rw [e] at h2;exact h2)
theorem Zsi {w w':World} {n:String} {cs:Array Value} (h:w.var? Tryz.prog n=some cs) (hb:Bw w w'):w'.var? Tryz.prog n=some cs:=by
 unfold World.var? at *
 cases hg:Tryz.prog.globalNamed n with
 | none=>rw [hg] at h;cases h
 | some g =>
  rw [hg] at h
  simp only [Option.bind_some] at *
  have hlt:g<w.heap.size:=by
   rcases Nat.lt_or_ge g w.heap.size with h'|h'
   ·exact h'
   ·simp [Array.getElem?_eq_none h'] at h
  rw [hb.block _ hlt]
  exact h
structure Env (w:World):Prop where
 tab:Tab w
 rng:∃ tp p,w.var? Tryz.prog "strconv.ErrRange" = some #[.iface tp p]
 syn:∃ tp p,w.var? Tryz.prog "strconv.ErrSyntax" = some #[.iface tp p]
 mlen:∃ m,w.cell? ⟨0,0,none⟩=some (.int .i64 m)
theorem Env.step {w w':World} (h:Env w) (hb:Bw w w'):Env w':=by
 obtain ⟨h1,⟨t2,p2,h2⟩,⟨t3,p3,h3⟩,⟨m,h4⟩⟩:=h
 refine ⟨h1.step hb,⟨t2,p2,Zsi h2 hb⟩,⟨t3,p3,Zsi h3 hb⟩,⟨m, ?_⟩⟩
 have hlt:0<w.heap.size:=by
  rcases Nat.lt_or_ge 0 w.heap.size with h'|h'
  ·exact h'
  ·simp [World.cell?,Array.getElem?_eq_none h'] at h4
 exact (hb.cell (p:=⟨0,0,none⟩) hlt).trans h4
theorem Zwd : "*" ++ "errors.errorString" = "*errors.errorString" := qd
theorem row_es (u:TypeId) (h:Tryz.prog.typeName? 3 u=some "*errors.errorString"):u=318 :=
 typeName_ptr_named (nm := "errors.errorString") (by rw [Zwd];kernel_rfl) kr qd u (by rw [Zwd];exact h)
theorem Env.of_laid {W:World} {l:List (String×DataW Unit)} (h:laidMet Tryz.prog l W) (hsh:W.ShapedOpen Tryz.prog) (e0:(l.filter λx=>x.1 == "internal/strconv.uint64pow10")=[("internal/strconv.uint64pow10",Rows.laid_internal_strconv_uint64pow10)]:=by rfl) (e1:(l.filter λx=>x.1 == "strconv.ErrRange")=[("strconv.ErrRange",Rows.laid_strconv_ErrRange)]:=by rfl) (e2:(l.filter λx=>x.1 == "strconv.ErrSyntax")=[("strconv.ErrSyntax",Rows.laid_strconv_ErrSyntax)]:=by rfl):Env W:=by
 have h1:=laidMet.filter (λx=>x.1 == "strconv.ErrRange") h
 have h2:=laidMet.filter (λx=>x.1 == "strconv.ErrSyntax") h
 rw [e1] at h1
 rw [e2] at h2
 refine ⟨Zqw h e0, ?_, ?_,Tryz.laysM145.s1_3 W hsh⟩
 ·obtain ⟨x,_,h1,_⟩:=laid_sentinel h1 (show Tryz.prog.globalNamed "strconv.ErrRange" = some 5 by kernel_rfl) (show (Tryz.prog.globals[5]?).map (·.type)=some 132 by kernel_rfl) Tryz.underlying132 row_es Tryz.underlying318 Tryz.underlying320 rfl rfl Tryz.underlying9 kr kr
  exact ⟨_,_,h1⟩
 ·obtain ⟨x,_,h1,_⟩:=laid_sentinel h2 (show Tryz.prog.globalNamed "strconv.ErrSyntax" = some 4 by kernel_rfl) (show (Tryz.prog.globals[4]?).map (·.type)=some 132 by kernel_rfl) Tryz.underlying132 row_es Tryz.underlying318 Tryz.underlying320 rfl rfl Tryz.underlying9 kr kr
  exact ⟨_,_,h1⟩
theorem Atoi_bad (s:ByteArray) (hlim:s.size<=281474976710656) (h:∀ v,Lib.atoiAll s.data.toList ≠ .ok v) (w:World) (he:Env w) :
  CL 133 #[.string s] w λe w'=>∃ (v:Int) (N:Nat),e=.returned (.tuple #[.int .i64 v,.iface 241 (.pointer (some ⟨N,0,none⟩))])/\Bw w w':=by
 cases ha:Lib.atoiAll s.data.toList
 ·exact absurd ha (h _)
 ·obtain ⟨tp,p,hv⟩:=he.syn
  have h0:CL 133 #[.string s] w λe w'=>∃ N,e=.returned (.tuple #[.int .i64 0,.iface 241 (.pointer (some ⟨N,0,none⟩))])/\w.heap.size<=N/\w'.heap[N]? = some (.cells #[.string ⟨#[65,116,111,105]⟩,.string s,.iface tp p] 291 (0,0))/\Bw w w':=Any.strconv_Atoi_syntax_var Tryz.laysC172 s hlim ha tp p w hv
  exact h0.mono λe w' ⟨N,he,_,_,hb⟩=>⟨0,N,he,hb⟩
 ·obtain ⟨tp,p,hv⟩:=he.rng
  have h0:CL 133 #[.string s] w λe w'=>∃ N,e=.returned (.tuple #[.int .i64 (Lib.atoiSat s.data.toList),.iface 241 (.pointer (some ⟨N,0,none⟩))])/\w.heap.size<=N/\w'.heap[N]? = some (.cells #[.string ⟨#[65,116,111,105]⟩,.string s,.iface tp p] 291 (0,0))/\Bw w w':=Any.strconv_Atoi_range_var Tryz.laysC172 s hlim ha tp p w hv
  exact h0.mono λe w' ⟨N,he,_,_,hb⟩=>⟨_,N,he,hb⟩
end
section
open Go.RowKit
def Zga (l:List Int) (lo hi:Int):Bool:=l.all λx=>inB x lo hi
theorem Zm5 {l:List Int} {lo hi:Int} {k:Nat} (h:Zga (l.take k) lo hi=true) (hk:k<l.length) (e:inB l[k] lo hi=true):Zga (l.take (k+1)) lo hi=true:=by
 unfold Zga at *
 rw [List.take_succ_eq_append_getElem hk,List.all_append,h]
 simp [e]
theorem Zk6 {l:List Int} {lo hi:Int} {k:Nat} (hk:k<l.length) (e:inB l[k] lo hi=false):Zga l lo hi=false:=by
 unfold Zga
 rw [List.all_eq_false]
 exact ⟨l[k],List.getElem_mem hk,by simp [e]⟩
set_option maxHeartbeats 400000 in
theorem Zhx (A:OA) (c:Nat) (l:List Int) (lo hi:Int) (w:World) (h:RS w 1 A l.length c (ints l)) :
  CL 138 #[.slice A l.length c,.int .i64 lo,.int .i64 hi] w λe w'=>e=.returned (.bool (Zga l lo hi))/\w=w':=by
 obtain ⟨hn,hc,hr⟩:=h.open_
 unfold maxLen at hc
 clear h
 have HR:=hdQ hr
 clear hr
 go_enter Tryz.func138,Tryz.ntmps138
 go_wp2
 go_loop [8,11] (λ_ i=>∃ k:Nat,k<=l.length/\i=.int .i64 k/\Zga (l.take k) lo hi=true) (λ_ i=>l.length-(intOf i).toNat)
 case atStart=>exact ⟨0,Nat.zero_le _,rfl,rfl⟩
 case round =>
  obtain ⟨k,hk,rfl,ht⟩:=hrel
  have HT:=hdQ ht
  clear ht
  by_cases hlt:k<l.length
  ·obtain ⟨b,o,rfl,hbh,hcell⟩:=HR.out qo
   have c1:w.cell? ⟨b,o+k,none⟩=some (.int .i64 l[k]):=by rw [hcell k qo,Zd3 hlt]
   clear hcell
   by_cases hin:inB l[k] lo hi=true
   ·go_wp2_with (go_at_call 77;refine (Zg3 _ _ _ _).mono ?_;rintro e w' ⟨rfl,rfl⟩)
    go_round
    case rel=>exact ⟨k+1,qo,qg,Zm5 HT.out hlt hin⟩
    case measure=>simp [intOf];omega
   ·have hin':inB l[k] lo hi=false:=by simpa using hin
    go_wp2_with (go_at_call 77;refine (Zg3 _ _ _ _).mono ?_;rintro e w' ⟨rfl,rfl⟩)
    go_ret
    exact ⟨Zaf (Zk6 hlt hin').symm,rfl⟩
  ·go_wp2
   go_ret
   obtain rfl:k=l.length:=qo
   exact ⟨Zaf (by have:=HT.out;rw [List.take_of_length_le (Nat.le_refl _)] at this;exact this.symm),rfl⟩
theorem Zat {P:Program} {f:FuncId} {args:Array Value} {w:World} {n:Nat} {v:Value}
  (h:Calls P f args (w.drewN n) λe w'=>e=.returned v/\w.drewN n=w'):Calls P f args (w.drewN n) λe w''=>e=.returned v/\∃ m,w''=w.drewN m :=
 h.mono λ_ _ ⟨he,hm⟩=>⟨he,n,hm.symm⟩
theorem Zfu {P:Program} {f:FuncId} {args:Array Value} {w:World} {v:Value}
  (h:Calls P f args w λe w'=>e=.returned v/\w=w'):Calls P f args w λe w''=>e=.returned v/\∃ m,w''=w.drewN m :=
 h.mono λ_ _ ⟨he,hm⟩=>⟨he,0,hm.symm⟩
def Zbl (log:Int):Int:=if log=0 then 1 else if log=1 then 2 else if log=2 then 4 else if log=3 then 8 else 16
theorem log_cases {log:Int} (h:inB log 0 4=true):log=0∨log=1∨log=2∨log=3∨log=4:=by have:=Za6 h;omega
def Zax (log:Int) (l:List Int):Bool:=inB log 0 4&&(decide ((l.length:Int)=Zbl log*Zbl log)&&Zga l 0 256)
end
section
set_option maxRecDepth 100000
open Go.RowKit Go.Lib
abbrev Zck (ls:List (List UInt8)):List Value:=ls.map str
theorem Zit {ls:List (List UInt8)} {k:Nat} (h:k<ls.length):(Zck ls)[k]? = some (str ls[k]):=by simp [h]
theorem Zfi (a:List (List UInt8)) (b:List UInt8):Zck a++Zck [b]=Zck (a++[b]):=qs
theorem Zh6 (ls:List (List UInt8)):∀ u∈Zck ls,u.oneCell'=true:=by
 intro u hu
 obtain ⟨x,_,rfl⟩:=List.mem_map.1 hu
 rfl
theorem T.infoString:(Tryz.prog.info? 9).map (λi=>(i.zero,i.size,i.bytes))=some (some (.string ByteArray.empty),1,16):=kr
theorem Zln {A:OA} {c:Nat} {ls:List (List UInt8)} {sep:List UInt8} (w:World) (h:RS w 1 A ls.length c (Zck ls)) (hpos:0<ls.length) (hn47:ls.length<=1000000) (hlen:(join ls sep).length<=140737488355328) :
  CR 45 #[.slice A ls.length c,str sep] w ((str (join ls sep))):=by
 obtain ⟨hn,hc,hr⟩:=h.open_
 obtain ⟨b,o,rfl,hbh,hcell⟩:=hr qo
 have e1:(ls.map λx=>(⟨x.toArray⟩:ByteArray)).map (λx=>x.data.toList)=ls:=by
  rw [List.map_map];simp [Function.comp_def]
 have HC:=qh (CR 160 #[.slice (some ⟨b,o,none⟩) ls.length c,str sep] w (str (join ls sep))) (by
  have h0:=Tryz.strings_Join b o c (ls.map λx=>(⟨x.toArray⟩:ByteArray)) ⟨sep.toArray⟩ w (λj x hj=>by
   rw [List.getElem?_map] at hj
   cases hg:ls[j]? with
   | none=>rw [hg] at hj;cases hj
   | some y =>
    rw [hg] at hj
    obtain rfl:=Option.some.inj hj
    have hj':=(List.getElem?_eq_some_iff.1 hg)
    obtain ⟨hj1,hj2⟩:=hj'
    rw [hcell j qo,Zit hj1,hj2]) hbh (by rw [List.length_map];omega) (by rw [List.length_map];omega) (by rw [e1];exact hlen)
  rw [e1,List.length_map] at h0
  exact h0)
 have hJA:CR 98 #[str sep,.slice (some ⟨b,o,none⟩) ls.length c] w ((str (join ls sep))):=by
  clear hcell hr e1 h hlen
  go_enter Tryz.func98,Tryz.ntmps98
  go_wp2_with fail
  refine HC.out.mono ?_
  rintro e w' ⟨rfl,hb⟩
  go_wp2_with fail
  go_ret
  exact ⟨rfl,hb⟩
 have HJ:=hdQ hJA
 clear hcell hr e1 h hlen hJA HC
 go_enter Tryz.func45,Tryz.ntmps45
 go_wp2_with fail
 refine HJ.out.mono ?_
 rintro e w' ⟨rfl,hb⟩
 go_wp2_with fail
 go_ret
 exact ⟨rfl,hb⟩
def fmtL (l:List Int):List UInt8:=join (l.map fmtI) [44]
theorem Zpt (r:List (List UInt8)) (B:Nat) (h:∀ x∈r,x.length<=B):(joinTail [44] r).length<=r.length*(B+1):=by
 induction r with
 | nil=>simp [joinTail]
 | cons a t ih =>
  have h1:=h a qs
  have h2:=ih (λx hx=>h x (by simp [hx]))
  have e:joinTail [44] (a::t)=[44]++a++joinTail [44] t:=by simp [joinTail]
  rw [e,List.length_append,List.length_append,List.length_cons]
  simp only [List.length_cons,List.length_nil]
  rw [Nat.succ_mul]
  omega
theorem Zie (l:List Int):(fmtL l).length<=l.length*12:=by
 unfold fmtL
 cases l with
 | nil=>simp [join_nil]
 | cons a t =>
  rw [List.map_cons,join_cons,List.length_append]
  have h1:=Zc5 a
  have h2:=Zpt (t.map fmtI) 11 (λx hx=>by obtain ⟨y,_,rfl⟩:=List.mem_map.1 hx;exact Zc5 y)
  rw [List.length_map] at h2
  rw [List.length_cons]
  omega
theorem Zfa {A:OA} {c:Nat} {l:List Int} (w:World) (h:RS w 1 A l.length c (ints l)) (hv:∀ x∈l,Zca x) (hpos:0<l.length) (hlen:l.length<=1000) (ht:Tab w) :
  CR 91 #[.slice A l.length c] w ((str (fmtL l))):=by
 have H0:=hdQ h
 have HV:=hdQ hv
 have HT:=hdQ ht
 clear h hv ht
 have hl0:¬ (l.length:Int)=0:=qo
 have hlb:((l.length:Int)==0)=false:=by simpa using hl0
 have HG0:=qh (Zaj (w.alloc (.cells #[] 9)) w.heap.size 9 1 (some ⟨w.heap.size,0,none⟩) 0 0 []) (Zaj.lit w #[] 0 rfl (Nat.le_refl _) (Nat.zero_le _))
 go_enter Tryz.func91,Tryz.ntmps91
 go_wp2_with fail
 go_loopw [3,5,6,13] (λo _ _ i wr=>∃ (k:Nat) (B:OA) (d:Nat),k<=l.length/\i=.int .i64 k/\o=.slice B k d/\Zaj wr w.heap.size 9 1 B k d (Zck ((l.take k).map fmtI))/\Bw w wr) (λ_ _ _ i _=>l.length-(RowKit.intOf i).toNat)
 case atStart=>exact ⟨0,_,_,Nat.zero_le _,rfl,rfl,HG0.out,bll⟩
 case round =>
  obtain ⟨k,B,d,hk,rfl,rfl,hg,hb⟩:=hrel
  have HG:=hdQ hg
  have HB:=hdQ hb
  have HR:=hdQ (RS.step hb H0.out)
  have hz:=hb.size
  clear hg hb HG0
  by_cases hlt:k<l.length
  ·obtain ⟨b,off,rfl,hbh,hcell⟩:=HR.out.open_.2.2 qo
   have c1:wr.cell? ⟨b,off+k,none⟩=some (.int .i64 l[k]):=by rw [hcell k qo,Zd3 hlt]
   have hin:=HV.out _ (List.getElem_mem hlt)
   have HS:=qh ((l.take (k+1)).map fmtI=(l.take k).map fmtI++[fmtI l[k]]) (by rw [List.take_succ_eq_append_getElem hlt,List.map_append];rfl)
   have i2:(k:Int)<l.length:=qo
   clear hcell
   generalize hx:l[k]=x at *
   have hem:(fmtI x).isEmpty=false:=by
    cases hf:fmtI x with
    | nil=>exact absurd hf (Zxk hin)
    | cons=>rfl
   have HX:=hdQ hx
   clear hx hin
   go_wp2_with fail
   refine (Zdv _ _ (HT.out.step (by first|exact HB.out|exact bll))).mono ?_
   rintro e wA ⟨rfl,hbA⟩
   have bA:Bw w wA:=bll
   have zA:=hbA.size
   (try simp at zA)
   have HGA:=qh (Zaj wA w.heap.size 9 1 B k d (Zck ((l.take k).map fmtI))) (Zaj.step hbA (gwx HG.out))
   clear hbA
   go_wp2_with (at_builtin;refine wpA (w.heap.size) Tryz.underlying50 T.infoString (Zck ((l.take k).map fmtI)) (Zck [fmtI x]) (Zh6 _) ?_ ?_ ?_;exact (gwx HGA.out);exact (ltt 1);rintro A' c' w2 gA;have g1:=gA.1;have g2:=gA.2.1;rw [Zfi,<- HS.out] at g1;have HG1:=hdQ g1;have HB1:=qh (Bw w w2) (Below.trans (Below.alloc bA qo _) g2);clear gA g1 g2)
   go_roundw
   case rel=>exact ⟨k+1,_,_,qo,qg,rfl,HG1.out,HB1.out⟩
   case measure=>exact qn
  ·obtain rfl:k=l.length:=by omega
   have HGL:=qh (Zaj wr w.heap.size 9 1 B l.length d (Zck (l.map fmtI))) (by have:=HG.out;rw [List.take_length] at this;exact this)
   have hll:(l.map fmtI).length=l.length:=List.length_map _
   have HRS:=qh (RS wr 1 B (l.map fmtI).length d (Zck (l.map fmtI))) (by rw [hll];exact HGL.out.rs)
   have HJL:=qh ((join (l.map fmtI) [44]).length<=140737488355328) (by have h1:(join (l.map fmtI) [44]).length<=l.length*12:=Zie l;omega)
   have HJ:=qh (∀ wx,wx=wr->CR 45 #[.slice B l.length d,.string ⟨#[44]⟩] wx (str (fmtL l))) (λwx hx=>by
    subst hx
    have h0:=(Zln (sep:=[44]) _ HRS.out qo qo HJL.out)
    rw [hll] at h0
    exact h0.mono (λe w' h=>h))
   clear hll hl0
   have hl0:¬ (l.length:Int)=0:=qo
   go_wp2_with fail
   refine (HJ.out _ rfl).mono ?_
   rintro e w' ⟨rfl,hb⟩
   go_wp2_with fail
   go_ret
   exact ⟨rfl,Below.step hb HB.out HB.out.size⟩
end
section
open Go.RowKit
def Zdh (a b:Int):Int:=if b<1 then 0 else a / b
theorem tdiv_neg {a b:Int} (ha:a<0) (hb:1<=b):a<=a.tdiv b/\a.tdiv b<=0 /\ -b<a.tmod b/\a.tmod b<=0/\(a.tmod b<0->a<=a.tdiv b-1/\a / b=a.tdiv b-1)/\(¬ a.tmod b<0->a / b=a.tdiv b):=by
 have h1:=Int.mul_tdiv_add_tmod a b
 have h4:a.tmod b<=0:=by
  have:=Int.tmod_nonneg (a := -a) b qo
  rw [Int.neg_tmod] at this;omega
 have h5 : -b<a.tmod b:=by
  have:=Int.tmod_lt_of_pos (-a) (b:=b) qo
  rw [Int.neg_tmod] at this;omega
 have h3:a.tdiv b<=0:=by
  have:=Int.tdiv_nonneg (a := -a) (b:=b) qo qo
  rw [Int.neg_tdiv] at this;omega
 have h6:b*a.tdiv b<=a.tdiv b:=by
  have:=Int.mul_le_mul_of_nonpos_right (a:=b) (b:=1) (c:=a.tdiv b) qo h3
  omega
 have h7:a<=a.tdiv b:=by
  rcases Int.lt_or_le (a.tmod b) 0 with h|h
  ·have hb2:2<=b:=by omega
   rcases Int.lt_or_le (a.tdiv b) 0 with hq|hq
   ·have:b*a.tdiv b<=2*a.tdiv b:=Int.mul_le_mul_of_nonpos_right hb2 h3
    omega
   ·omega
  ·omega
 refine ⟨h7,h3,h5,h4,λh=>?_,λh=>?_⟩
 ·have hb2:2<=b:=by omega
  refine ⟨?_, ?_⟩
  ·rcases Int.lt_or_le (a.tdiv b) 0 with hq|hq
   ·have:b*a.tdiv b<=2*a.tdiv b:=Int.mul_le_mul_of_nonpos_right hb2 h3
    omega
   ·omega
  ·have e:a=(a.tmod b+b)+b*(a.tdiv b-1):=by rw [Int.mul_sub,Int.mul_one];omega
   rw [e,Int.add_mul_ediv_left _ _ qo,Int.ediv_eq_zero_of_lt qo qo]
   rw [<- e];omega
 ·have e:a=b*a.tdiv b:=by omega
  have hd:b ∣ a:=⟨_,e⟩
  exact (Int.tdiv_eq_ediv_of_dvd hd).symm
theorem fdivF_neg {a b:Int} (ha:a<0) (hb:1<=b):(a.tmod b<0/\a<=a.tdiv b-1/\a.tdiv b<=0/\Zdh a b=a.tdiv b-1)∨(¬ a.tmod b<0/\a<=a.tdiv b/\a.tdiv b<=0/\Zdh a b=a.tdiv b):=by
 obtain ⟨h1,h2,h3,h4,h5,h6⟩:=tdiv_neg ha hb
 have e:Zdh a b=a / b:=by unfold Zdh;rw [if_neg qo]
 by_cases h:a.tmod b<0
 ·exact .inl ⟨h,(h5 h).1,h2,e.trans (h5 h).2⟩
 ·exact .inr ⟨h,h1,h2,e.trans (h6 h)⟩
theorem Zu9 {a b:Int} (w:World) (h1 : -9223372036854775808<=a) (h2:a<=9223372036854775807) :
  CL 261 #[.int .i64 a,.int .i64 b] w λe w'=>e=.returned (.int .i64 (Zdh a b))/\w=w':=by
 by_cases hb:b<1
 ·have HE:=hdQ (show Zdh a b=0 by unfold Zdh;rw [if_pos hb])
  go_enter Tryz.func261,Tryz.ntmps261
  go_wp2
  go_ret
  exact ⟨Zd2 HE.out.symm,rfl⟩
 ·have hb0:(b==0)=false:=by simp;omega
  rcases Int.lt_or_le a 0 with ha|ha
  ·rcases fdivF_neg ha (by omega:1<=b) with ⟨q1,q2,q3,q4⟩|⟨q1,q2,q3,q4⟩
   all_goals
    have HE:=hdQ q4
    clear q4
    have hp:IntKind.i64.wrap (a.tdiv b)=a.tdiv b:=IntWalk.i64_in _ qo
    go_enter Tryz.func261,Tryz.ntmps261
    go_wp2
    go_ret
    exact ⟨Zd2 HE.out.symm,rfl⟩
  ·have HE:=hdQ (show Zdh a b=a / b by unfold Zdh;rw [if_neg hb])
   have k1:0<=a % b:=Int.emod_nonneg _ qo
   have k2:0<=a / b:=Int.ediv_nonneg ha qo
   have k3:a / b<=a:=Int.ediv_le_self _ ha
   go_enter Tryz.func261,Tryz.ntmps261
   go_wp2
   go_ret
   exact ⟨Zd2 HE.out.symm,rfl⟩
theorem Zvq {a b:Int} (w:World) (h1 : -9223372036854775808<=a) (h2:a<=9223372036854775807) :
  CL 226 #[.int .i64 a,.int .i64 b] w λe w'=>e=.returned (.int .i64 (Zdh a b))/\w=w':=by
 by_cases hb:b<1
 ·have HE:=hdQ (show Zdh a b=0 by unfold Zdh;rw [if_pos hb])
  go_enter Tryz.func226,Tryz.ntmps226
  go_wp2
  go_ret
  exact ⟨Zd2 HE.out.symm,rfl⟩
 ·have hb0:(b==0)=false:=by simp;omega
  rcases Int.lt_or_le a 0 with ha|ha
  ·rcases fdivF_neg ha (by omega:1<=b) with ⟨q1,q2,q3,q4⟩|⟨q1,q2,q3,q4⟩
   all_goals
    have HE:=hdQ q4
    clear q4
    have hp:IntKind.i64.wrap (a.tdiv b)=a.tdiv b:=IntWalk.i64_in _ qo
    go_enter Tryz.func226,Tryz.ntmps226
    go_wp2
    go_ret
    exact ⟨Zd2 HE.out.symm,rfl⟩
  ·have HE:=hdQ (show Zdh a b=a / b by unfold Zdh;rw [if_neg hb])
   have k1:0<=a % b:=Int.emod_nonneg _ qo
   have k2:0<=a / b:=Int.ediv_nonneg ha qo
   have k3:a / b<=a:=Int.ediv_le_self _ ha
   go_enter Tryz.func226,Tryz.ntmps226
   go_wp2
   go_ret
   exact ⟨Zd2 HE.out.symm,rfl⟩
set_option maxRecDepth 100000
abbrev Zbi (x y z:Int):Value:=.agg #[.int .i64 x,.int .i64 y,.int .i64 z]
def cl (n:Int):Int:=Zk2 n (-1000000) 1000000
theorem Ze4 (n:Int) : -1000000<=cl n/\cl n<=1000000:=by unfold cl Zk2;split<;>(try split)<;>omega
theorem cl_id {n:Int} (h : -1000000<=n/\n<=1000000):cl n=n:=by unfold cl Zk2;split<;>(try split)<;>omega
def Zuz (x y z:Int):Prop:=(-4000000000000000000<=x/\x<=4000000000000000000)/\(-4000000000000000000<=y/\y<=4000000000000000000) /\ -4000000000000000000<=z/\z<=4000000000000000000
def validV (x y z:Int):Bool:=decide (x=cl x)&&(decide (y=cl y)&&decide (z=cl z))
theorem S_l02N (n:Int) (w:World) :
  CL 263 #[.int .i64 n] w λe w'=>e=.returned (.int .i64 (cl n))/\w=w':=by
 go_enter Tryz.func263,Tryz.ntmps263
 go_wp2_with (first|(go_at_call 285;refine (S_Clamp _ _ _ _).mono ?_;rintro e w' ⟨rfl,rfl⟩)|fail)
 go_ret
 exact ⟨rfl,rfl⟩
theorem I_clampC (n:Int) (w:World) :
  CL 220 #[.int .i64 n] w λe w'=>e=.returned (.int .i64 (cl n))/\w=w':=by
 go_enter Tryz.func220,Tryz.ntmps220
 go_wp2_with (first|(go_at_call 221;refine (I_Clamp _ _ _ _).mono ?_;rintro e w' ⟨rfl,rfl⟩)|fail)
 go_ret
 exact ⟨rfl,rfl⟩
theorem Zr4 (a b:Int) (w:World) (h : -4000000000000000000<=a/\a<=4000000000000000000) (h' : -4000000000000000000<=b/\b<=4000000000000000000) :
  CL 224 #[.int .i64 a,.int .i64 b] w λe w'=>e=.returned (.int .i64 (a+b))/\w=w':=by
 have y1':IntKind.i64.wrap (a+b)=a+b:=IntWalk.i64_in _ qo
 go_enter Tryz.func224,Tryz.ntmps224
 go_wp2
 go_ret
 exact ⟨rfl,rfl⟩
theorem Zr5 (x n:Int) (B:Nat) (w:World) (h:w.cell? ⟨B,0,none⟩=some (.int .i64 n)) (hx : -4000000000000000000<=x/\x<=4000000000000000000) :
  CL 225 #[.int .i64 x,.pointer (some ⟨B,0,none⟩)] w λe w'=>e=.returned (.int .i64 (Zdh x n))/\w=w':=by
 go_enter Tryz.func225,Tryz.ntmps225
 go_wp2_with (first|(go_at_call 226;refine (Zvq _ qo qo).mono ?_;rintro e w' ⟨rfl,rfl⟩)|fail)
 go_ret
 exact ⟨rfl,rfl⟩
theorem Zx9 (x y z:Int) (w:World) :
  CR 218 #[Zbi x y z] w ((Zbi (cl x) (cl y) (cl z))):=by
 go_enter Tryz.func218,Tryz.ntmps218
 go_wp2_with fail
 go_region_held3 (λw'=>w'.cell? ⟨w.heap.size,0,none⟩=some (.int .i64 x)/\w'.cell? ⟨w.heap.size,1,none⟩=some (.int .i64 y)/\w'.cell? ⟨w.heap.size,2,none⟩=some (.int .i64 z))
  (first|((try dsimp only);refine ⟨?_, ?_, ?_⟩<;>(go_simp;done))|go_keep)
  (first|(go_at_call 263;(with_reducible refine (S_l02N _ _).mono ?_);rintro e w' ⟨rfl,rfl⟩)|fail)
 all_goals
  go_wp2
  exact bodyPost_ret (v:=Zbi (cl x) (cl y) (cl z)) (by simp [results,Tryz.results218,go_sem, *]) rfl ⟨rfl,bll⟩
theorem Zr7 (x y z:Int) (w:World) :
  CR 219 #[Zbi x y z,.func (.func 220) #[] #[]] w ((Zbi (cl x) (cl y) (cl z))):=by
 go_enter Tryz.func219,Tryz.ntmps219
 go_wp2_with fail
 go_region_held3 (λw'=>w'.cell? ⟨w.heap.size,0,none⟩=some (.int .i64 x)/\w'.cell? ⟨w.heap.size,1,none⟩=some (.int .i64 y)/\w'.cell? ⟨w.heap.size,2,none⟩=some (.int .i64 z))
  (first|((try dsimp only);refine ⟨?_, ?_, ?_⟩<;>(go_simp;done))|go_keep)
  (first|(go_at_call 220;(with_reducible refine (I_clampC _ _).mono ?_);rintro e w' ⟨rfl,rfl⟩)|fail)
 all_goals
  go_wp2
  exact bodyPost_ret (v:=Zbi (cl x) (cl y) (cl z)) (by simp [results,Tryz.results219,go_sem, *]) rfl ⟨rfl,bll⟩
theorem Zvl (x y z n:Int) (B:Nat) (w:World) (h:w.cell? ⟨B,0,none⟩=some (.int .i64 n)) (hB:B<w.heap.size) (hx:Zuz x y z) :
  CR 219 #[Zbi x y z,.func (.func 225) #[] #[.pointer (some ⟨B,0,none⟩)]] w ((Zbi (Zdh x n) (Zdh y n) (Zdh z n))):=by
 have hne:¬ B=w.heap.size:=qo
 have hne2:¬ B=w.heap.size+1:=qo
 have HX:=hdQ hx.1
 have HY:=hdQ hx.2.1
 have HZ:=hdQ hx.2.2
 have HB:Hid (∀ wx,Bw w wx->wx.cell? ⟨B,0,none⟩=some (.int .i64 n)):=λwx hw=>by rw [hw.cell (p:=⟨B,0,none⟩) hB];exact h
 clear hx
 go_enter Tryz.func219,Tryz.ntmps219
 go_wp2_with fail
 go_region_held3 (λw'=>w'.cell? ⟨w.heap.size,0,none⟩=some (.int .i64 x)/\w'.cell? ⟨w.heap.size,1,none⟩=some (.int .i64 y)/\w'.cell? ⟨w.heap.size,2,none⟩=some (.int .i64 z)/\w'.cell? ⟨B,0,none⟩=some (.int .i64 n))
  (first|((try dsimp only);refine ⟨?_, ?_, ?_, ?_⟩<;>(go_simp;done))|go_keep)
  (first|(go_at_call 225;(with_reducible refine (Zr5 x n B _ (HB.out _ bll) HX.out).mono ?_);rintro e w' ⟨rfl,rfl⟩)|(go_at_call 225;(with_reducible refine (Zr5 y n B _ (HB.out _ bll) HY.out).mono ?_);rintro e w' ⟨rfl,rfl⟩)|(go_at_call 225;(with_reducible refine (Zr5 z n B _ (HB.out _ bll) HZ.out).mono ?_);rintro e w' ⟨rfl,rfl⟩)|fail)
 all_goals
  go_wp2
  exact bodyPost_ret (v:=Zbi (Zdh x n) (Zdh y n) (Zdh z n)) (by simp [results,Tryz.results219,go_sem, *]) rfl ⟨rfl,bll⟩
theorem Zll (x y z:Int) (w:World) :
  CR 166 #[Zbi x y z] w ((Zbi (cl x) (cl y) (cl z))):=by
 go_enter Tryz.func166,Tryz.ntmps166
 go_wp2_with (first|(go_at_call 219;refine (Zr7 _ _ _ _).mono ?_;rintro e w' ⟨rfl,hb⟩;have hz:=hb.size;(try simp at hz);obtain ⟨c0,f0,z0⟩:=bxx hb (w.heap.size);obtain ⟨c1,f1,z1⟩:=bxx hb (w.heap.size+1))|fail)
 exact bodyPost_ret (v:=Zbi (cl x) (cl y) (cl z)) (by simp [results,Tryz.results166,go_sem, *]) rfl ⟨rfl,bll⟩
theorem I_over (x y z n:Int) (w:World) (hx:Zuz x y z) :
  CR 169 #[Zbi x y z,.int .i64 n] w ((Zbi (Zdh x n) (Zdh y n) (Zdh z n))):=by
 have HX:=hdQ hx
 clear hx
 go_enter Tryz.func169,Tryz.ntmps169
 go_wp2_with fail
 refine (Zvl _ _ _ n (w.heap.size+1) _ (by go_simp) qs HX.out).mono ?_
 rintro e w' ⟨rfl,hb⟩;have hz:=hb.size;(try simp at hz);obtain ⟨c0,f0,z0⟩:=bxx hb (w.heap.size);obtain ⟨c1,f1,z1⟩:=bxx hb (w.heap.size+1);obtain ⟨c2,f2,z2⟩:=bxx hb (w.heap.size+1+1)
 go_wp2_with fail
 exact bodyPost_ret (v:=Zbi (Zdh x n) (Zdh y n) (Zdh z n)) (by simp [results,Tryz.results169,go_sem, *]) rfl ⟨rfl,bll⟩
theorem Zvd (x y z p q r:Int) (w:World) (hx:Zuz x y z) (hp:Zuz p q r) :
  CR 223 #[Zbi x y z,Zbi p q r,.func (.func 224) #[] #[]] w ((Zbi (x+p) (y+q) (z+r))):=by
 have HX1:=hdQ hx.1
 have HX2:=hdQ hx.2.1
 have HX3:=hdQ hx.2.2
 have HP1:=hdQ hp.1
 have HP2:=hdQ hp.2.1
 have HP3:=hdQ hp.2.2
 clear hx hp
 go_enter Tryz.func223,Tryz.ntmps223
 go_wp2_with fail
 go_region_held3 (λw'=>w'.cell? ⟨w.heap.size,0,none⟩=some (.int .i64 x)/\w'.cell? ⟨w.heap.size,1,none⟩=some (.int .i64 y)/\w'.cell? ⟨w.heap.size,2,none⟩=some (.int .i64 z)/\w'.cell? ⟨w.heap.size+1,0,none⟩=some (.int .i64 p)/\w'.cell? ⟨w.heap.size+1,1,none⟩=some (.int .i64 q)/\w'.cell? ⟨w.heap.size+1,2,none⟩=some (.int .i64 r))
  (first|((try dsimp only);refine ⟨?_, ?_, ?_, ?_, ?_, ?_⟩<;>(go_simp;done))|go_keep)
  (first|(go_at_call 224;(with_reducible refine (Zr4 x p _ HX1.out HP1.out).mono ?_);rintro e w' ⟨rfl,rfl⟩)|(go_at_call 224;(with_reducible refine (Zr4 y q _ HX2.out HP2.out).mono ?_);rintro e w' ⟨rfl,rfl⟩)|(go_at_call 224;(with_reducible refine (Zr4 z r _ HX3.out HP3.out).mono ?_);rintro e w' ⟨rfl,rfl⟩)|fail)
 all_goals
  go_wp2
  exact bodyPost_ret (v:=Zbi (x+p) (y+q) (z+r)) (by simp [results,Tryz.results223,go_sem, *]) rfl ⟨rfl,bll⟩
theorem I_plus (x y z p q r:Int) (w:World) (hx:Zuz x y z) (hp:Zuz p q r) :
  CR 168 #[Zbi x y z,Zbi p q r] w ((Zbi (x+p) (y+q) (z+r))):=by
 have HX:=hdQ hx
 have HP:=hdQ hp
 clear hx hp
 go_enter Tryz.func168,Tryz.ntmps168
 go_wp2_with (first|(go_at_call 223;refine (Zvd _ _ _ _ _ _ _ HX.out HP.out).mono ?_;rintro e w' ⟨rfl,hb⟩;have hz:=hb.size;(try simp at hz);obtain ⟨c0,f0,z0⟩:=bxx hb (w.heap.size);obtain ⟨c1,f1,z1⟩:=bxx hb (w.heap.size+1);obtain ⟨c2,f2,z2⟩:=bxx hb (w.heap.size+1+1))|fail)
 exact bodyPost_ret (v:=Zbi (x+p) (y+q) (z+r)) (by simp [results,Tryz.results168,go_sem, *]) rfl ⟨rfl,bll⟩
end
section
open Go.ChangeShapes Go.WideShapes Go.ChangeAt Go.RowKit
abbrev Zb2 (a b c d:Int) (e:Bool) (f g:Int):Value:=.agg #[.int .i64 a,.int .i64 b,.int .i64 c,.int .i64 d,.bool e,.int .i64 f,.int .i64 g]
def Za4 (a b c d f g:Int):Bool:=inB a 1 12&&(inB b 1 12&&(inB c 1 65536&&(inB d 1 1000000&&(inB f 0 64&&inB g 0 1000000))))
theorem Znc {a b c d f g:Int} (h:Za4 a b c d f g=true):(1<=a/\a<=12)/\(1<=b/\b<=12)/\(1<=c/\c<=65536)/\(1<=d/\d<=1000000)/\(0<=f/\f<=64)/\(0<=g/\g<=1000000):=by
 simp only [Za4,Bool.and_eq_true] at h
 obtain ⟨h1,h2,h3,h4,h5,h6⟩:=h
 exact ⟨Za6 h1,Za6 h2,Za6 h3,Za6 h4,Za6 h5,Za6 h6⟩
theorem Zdn {a b c d:Int} {e:Bool} {f g:Int} (w:World) :
  CL 75 #[Zb2 a b c d e f g] w λr w'=>r=.returned (.bool (Za4 a b c d f g))/\Bw w w':=by
 go_enter Tryz.func75,Tryz.ntmps75
 go_wp2_with (go_at_call 77;refine (Zg3 _ _ _ _).mono ?_;rintro e w' ⟨rfl,rfl⟩)
 all_goals
  go_ret
  exact ⟨Zaf (by simp_all [Za4]),bll⟩
end
section
open Go.RowKit
theorem Zx4 {log:Int} (h:inB log 0 4=true) (w:World):CL 170 #[.int .i64 log] w λe w'=>e=.returned (.int .i64 (Zbl log))/\w=w':=by
 have key:∀ m:Nat,m<=4->log=m->CL 170 #[.int .i64 log] w λe w'=>e=.returned (.int .i64 ((2 ^ m:Nat):Int))/\w=w':=by
  intro m hm hl
  subst hl
  go_enter Tryz.func170,Tryz.ntmps170
  go_wp2
  go_loop [0,3] (λt n=>∃ j:Nat,j<=m/\t=.int .i64 j/\n=.int .i64 ((2 ^ (m-j):Nat):Int)) (λt _=>(intOf t).toNat)
  case atStart=>exact ⟨m,Nat.le_refl _,rfl,qs⟩
  case round =>
   obtain ⟨j,hj,rfl,rfl⟩:=hrel
   have hp:2 ^ (m-j)<=2 ^ 4:=Nat.pow_le_pow_right qo qo
   have hs:j≠0->2 ^ (m-(j-1))=2*2 ^ (m-j):=λh=>by rw [show m-(j-1)=(m-j)+1 by omega,Nat.pow_succ];omega
   have HS:=hdQ hs
   clear hs
   by_cases hlt:0<j
   ·generalize 2 ^ (m-j)=q at *
    have h0:(0:Int)<j:=qo
    go_wp2
    go_round
    case rel=>exact ⟨j-1,qo,by congr 1;omega,by rw [HS.out qo];congr 1⟩
    case measure=>simp [intOf];omega
   ·obtain rfl:j=0:=by omega
    go_wp2
    go_ret
    exact ⟨Zd2 qs,rfl⟩
 rcases log_cases h with rfl|rfl|rfl|rfl|rfl
 ·exact key 0 qo rfl
 ·exact key 1 qo rfl
 ·exact key 2 qo rfl
 ·exact key 3 qo rfl
 ·exact key 4 qo rfl
theorem Zdj (k:Nat) (hk:k<=8):Op.shift .shl .i64 1 .i64 (k:Int)=pure (.int .i64 (2 ^ k)):=by
 rcases (by omega:k=0∨k=1∨k=2∨k=3∨k=4∨k=5∨k=6∨k=7∨k=8) with rfl|rfl|rfl|rfl|rfl|rfl|rfl|rfl|rfl<;>rfl
theorem Zsq (log:Int):1<=Zbl log/\Zbl log<=16/\1<=Zbl log*Zbl log/\Zbl log*Zbl log<=256:=by
 unfold Zbl;repeat' split
 all_goals omega
theorem validTex_cases (log:Int) (n:Nat):(inB log 0 4=true/\(((n:Int) != Zbl log*Zbl log)=false/\((n:Int)==Zbl log*Zbl log)=true)/\Hid ((n:Int)=Zbl log*Zbl log))∨(inB log 0 4=true/\(((n:Int) != Zbl log*Zbl log)=true/\((n:Int)==Zbl log*Zbl log)=false)/\Hid (¬ (n:Int)=Zbl log*Zbl log))∨inB log 0 4=false:=by
 cases h:inB log 0 4
 ·exact .inr (.inr rfl)
 ·by_cases hn:(n:Int)=Zbl log*Zbl log
  ·exact .inl ⟨rfl,⟨by simp [hn],by simp [hn]⟩,hn⟩
  ·exact .inr (.inl ⟨rfl,⟨by simp [hn],by simp [hn]⟩,hn⟩)
theorem Zc6 {log:Int} {A:OA} {c:Nat} {l:List Int} (w:World) (h:RS w 1 A l.length c (ints l)) :
  CR 76 #[Zdw log (.slice A l.length c)] w ((.bool (Zax log l))):=by
 have hlen:=h.len
 unfold maxLen at hlen
 have HA:=hdQ (RS.alloc h (.cells #[.int .i64 log,.slice A l.length c] 26))
 clear h
 rcases validTex_cases log l.length with ⟨q1,⟨q2,q2'⟩,q3⟩|⟨q1,⟨q2,q2'⟩,q3⟩|q1
 case inr.inr =>
  have HE:Hid (Zax log l=false):=by show _=_;unfold Zax;rw [q1];rfl
  go_enter Tryz.func76,Tryz.ntmps76
  go_wp2_with fail
  go_quiet ((go_at_call 77;exact Zat (Zb5 q1 _)))
  go_wp2
  go_ret
  exact ⟨Zaf HE.out.symm,bll⟩
 case inr.inl =>
  have HE:Hid (Zax log l=false):=by show _=_;unfold Zax;rw [q1];simp [q3.out]
  have HQ:=hdQ q2'
  clear q2 q2'
  rcases log_cases q1 with rfl|rfl|rfl|rfl|rfl
  all_goals
   have hq:=HQ.out
   simp only [show Zbl 0*Zbl 0=(1:Int) from rfl,show Zbl 1*Zbl 1=(4:Int) from rfl,show Zbl 2*Zbl 2=(16:Int) from rfl,show Zbl 3*Zbl 3=(64:Int) from rfl,show Zbl 4*Zbl 4=(256:Int) from rfl] at hq
   have hw0:IntKind.i64.wrap 0=0:=rfl
   have g0:=Zdj 0 qo;have g1:=Zdj 1 qo;have g2:=Zdj 2 qo;have g3:=Zdj 3 qo;have g4:=Zdj 4 qo;have g6:=Zdj 6 qo;have g8:=Zdj 8 qo
   simp at g0 g1 g2 g3 g4 g6 g8
   go_enter Tryz.func76,Tryz.ntmps76
   go_wp2_with fail
   go_quiet ((first|(go_at_call 77;exact Zat (Zb5 q1 _))|(go_at_call 138;exact Zat (Zhx _ _ _ _ _ _ HA.out))))
   go_wp2
   go_ret
   exact ⟨Zaf HE.out.symm,bll⟩
 case inl =>
  have HE:Hid (Zax log l=Zga l 0 256):=by show _=_;unfold Zax;rw [q1];simp [q3.out]
  have HQ:=hdQ q2'
  clear q2 q2'
  rcases log_cases q1 with rfl|rfl|rfl|rfl|rfl
  all_goals
   have hq:=HQ.out
   simp only [show Zbl 0*Zbl 0=(1:Int) from rfl,show Zbl 1*Zbl 1=(4:Int) from rfl,show Zbl 2*Zbl 2=(16:Int) from rfl,show Zbl 3*Zbl 3=(64:Int) from rfl,show Zbl 4*Zbl 4=(256:Int) from rfl] at hq
   have hw0:IntKind.i64.wrap 0=0:=rfl
   have g0:=Zdj 0 qo;have g1:=Zdj 1 qo;have g2:=Zdj 2 qo;have g3:=Zdj 3 qo;have g4:=Zdj 4 qo;have g6:=Zdj 6 qo;have g8:=Zdj 8 qo
   simp at g0 g1 g2 g3 g4 g6 g8
   go_enter Tryz.func76,Tryz.ntmps76
   go_wp2_with fail
   go_quiet ((first|(go_at_call 77;exact Zat (Zb5 q1 _))|(go_at_call 138;exact Zat (Zhx _ _ _ _ _ _ HA.out))))
   go_wp2
   go_ret
   exact ⟨Zaf HE.out.symm,bll⟩
end
section
open Go.RowKit Go.Lib
abbrev Zau:=Nat->Int
abbrev Zbt:=Zau×Zau×Int×Int
def Zop (x y z:Int):List UInt8:=fmtL [x,y,z]
def Zba (p:Zau):Bool:=validV (p 0) (p 1) (p 2)&&(validV (p 3) (p 4) (p 5)&&(validV (p 6) (p 7) (p 8)&&validV (p 9) (p 10) (p 11)))
def Zh0 (p:Zau):List (List UInt8):=[Zop (p 0) (p 1) (p 2),Zop (p 3) (p 4) (p 5),Zop (p 6) (p 7) (p 8),Zop (p 9) (p 10) (p 11)]
def Zia (p:Zau):List UInt8:=join (Zh0 p) [32]
def Zn6 (a b c d:Int) (e:Bool) (f g:Int):List UInt8:=fmtL [a,b,c,d,if e then 1 else 0,f,g]
def Zvw (log:Int) (l:List Int):List UInt8:=fmtI log++[58]++fmtL l
def flatT (l:List UInt8):List UInt8:=l.map λb=>if b=10 then 32 else b
def Zq4 (r:Int):Bool:=decide (r=1∨r=2∨r=4∨r=8)
def Zls (r:Int):Bool:=decide (r=1∨r=2∨r=4)
def Zch (n:Int) (x:Zbt):Bool:=Zba x.1&&(Zba x.2.1&&(decide (0<=x.2.2.1)&&(decide (x.2.2.1<n)&&Zq4 x.2.2.2)))
structure EScene where
 a:Int
 b:Int
 c:Int
 d:Int
 e:Bool
 f:Int
 g:Int
 log:Int
 tex:List Int
 ps:List Zag
 ss:List Zbt
 side:Int
def Zcj (n:Int) (ss:List Zbt) (k:Nat):Bool:=(ss.take k).all (Zch n)
def Zeg (ps:List Zag) (k:Nat):Bool:=(ps.take k).all Za3
def Zbb (s:EScene):Bool:=Za4 s.a s.b s.c s.d s.f s.g&&(Zax s.log s.tex&&(inB s.ps.length 1 3&&(decide (s.ss.length<=5)&&(Zls s.side&&(Zeg s.ps s.ps.length&&Zcj s.ps.length s.ss s.ss.length)))))
def surfL (x:Zbt):List (List UInt8):=[[115,117,114,102,97,99,101],fmtI x.2.2.1,fmtI x.2.2.2,Zia x.1,Zia x.2.1]
def Zh5 (x:Zbt):List UInt8:=[115,117,114,102,97,99,101,32]++fmtI x.2.2.1++[32]++fmtI x.2.2.2++[32]++Zia x.1++[32]++Zia x.2.1
def Zq0 (p:Zag):List UInt8:=[115,104,97,100,101,114,32]++flatT (Zf9 p)
def Zn1 (s:EScene):List (List UInt8):=[[99,97,109,101,114,97,32]++Zn6 s.a s.b s.c s.d s.e s.f s.g,[116,101,120,116,117,114,101,32]++Zvw s.log s.tex,[115,105,100,101,32]++fmtI s.side]
def Zbk (s:EScene):List (List UInt8):=Zn1 s++s.ps.map Zq0++s.ss.map Zh5
def Zb0 (s:EScene):List UInt8:=if Zbb s then join (Zbk s) [10]++[10] else []
theorem Zt0 (x:Zbt):join (surfL x) [32]=Zh5 x:=by
 simp [surfL,Zh5,join_cons,joinTail]
theorem Zo0 {n:Int} {ss:List Zbt} {k:Nat} (h:k<ss.length):Zcj n ss (k+1)=(Zcj n ss k&&Zch n ss[k]):=by
 unfold Zcj
 rw [List.take_succ_eq_append_getElem h,List.all_append];simp
theorem Zqz {ps:List Zag} {k:Nat} (h:k<ps.length):Zeg ps (k+1)=(Zeg ps k&&Za3 ps[k]):=by
 unfold Zeg
 rw [List.take_succ_eq_append_getElem h,List.all_append];simp
theorem Zwg {ps:List Zag} {k:Nat} (h:k<ps.length) (hc:Za3 ps[k]=false):Zeg ps ps.length=false:=by
 unfold Zeg
 rw [List.take_length,List.all_eq_false]
 exact ⟨_,List.getElem_mem h,by simp [hc]⟩
theorem Ztz {n:Int} {ss:List Zbt} {k:Nat} (h:k<ss.length) (hc:Zch n ss[k]=false):Zcj n ss ss.length=false:=by
 unfold Zcj
 rw [List.take_length,List.all_eq_false]
 exact ⟨_,List.getElem_mem h,by simp [hc]⟩
theorem Zka {ps:List Zag} {k:Nat} (h:Zeg ps ps.length=true) (hk:k<ps.length):Za3 ps[k]=true:=by
 unfold Zeg at h
 rw [List.take_length,List.all_eq_true] at h
 exact h _ (List.getElem_mem hk)
theorem Zmg {n:Int} {ss:List Zbt} {k:Nat} (h:Zcj n ss ss.length=true) (hk:k<ss.length):Zch n ss[k]=true:=by
 unfold Zcj at h
 rw [List.take_length,List.all_eq_true] at h
 exact h _ (List.getElem_mem hk)
theorem Zf0 {p:Zag} (h:Za3 p=true):Zas p=true:=by
 unfold Za3 at h
 simp only [Bool.and_eq_true] at h
 exact h.1.1.1.1
structure SceneIs (s:EScene):Prop where
 cam:Za4 s.a s.b s.c s.d s.f s.g=true
 tex:Zax s.log s.tex=true
 np:1<=s.ps.length/\s.ps.length<=3
 ns:s.ss.length<=5
 side:Zls s.side=true
 shad:Zeg s.ps s.ps.length=true
 surf:Zcj s.ps.length s.ss s.ss.length=true
theorem Zkc {s:EScene} (h:Zbb s=true):SceneIs s:=by
 unfold Zbb at h
 simp only [Bool.and_eq_true,decide_eq_true_eq] at h
 obtain ⟨h1,h2,h3,h4,h5,h6,h7⟩:=h
 have:=Za6 h3
 exact ⟨h1,h2,⟨qo,qo⟩,h4,h5,h6,h7⟩
theorem Zjt (x y z:Int):(Zop x y z).length<=36:=Zie [x,y,z]
theorem Zpu (sep:UInt8) (ts:List (List UInt8)):(join ts [sep]).length<=(ts.map List.length).sum+(ts.length-1):=by
 cases ts with
 | nil=>simp [join_nil]
 | cons a t =>
  rw [join_cons,List.length_append,List.map_cons,List.sum_cons,List.length_cons]
  have:∀ r:List (List UInt8),(joinTail [sep] r).length=(r.map List.length).sum+r.length:=by
   intro r
   induction r with
   | nil=>simp [joinTail]
   | cons b s ih =>
    have e:joinTail [sep] (b::s)=[sep]++b++joinTail [sep] s:=by simp [joinTail]
    rw [e,List.length_append,List.length_append,ih,List.map_cons,List.sum_cons,List.length_cons]
    simp only [List.length_cons,List.length_nil]
    omega
  rw [this]
  omega
theorem Zh9 (p:Zau):(Zia p).length<=147:=by
 have h:=Zpu 32 (Zh0 p)
 have h1:=Zjt (p 0) (p 1) (p 2)
 have h2:=Zjt (p 3) (p 4) (p 5)
 have h3:=Zjt (p 6) (p 7) (p 8)
 have h4:=Zjt (p 9) (p 10) (p 11)
 unfold Zia
 simp only [Zh0,List.map_cons,List.map_nil,List.sum_cons,List.sum_nil,List.length_cons,List.length_nil] at h
 simp only [Zh0]
 omega
theorem Zo2 (x:Zbt):(Zh5 x).length<=328:=by
 have h1:=Zc5 x.2.2.1
 have h2:=Zc5 x.2.2.2
 have h3:=Zh9 x.1
 have h4:=Zh9 x.2.1
 simp only [Zh5,List.length_append,List.length_cons,List.length_nil]
 omega
theorem Zkw (l:List UInt8):(flatT l).length=l.length:=by simp [flatT]
theorem Zwh {p:Zag} (h:Zas p=true):(Zq0 p).length<=51187:=by
 have:=Zpf h
 simp only [Zq0,List.length_append,List.length_cons,List.length_nil,Zkw]
 omega
theorem Zsn {log:Int} {l:List Int} (h:l.length<=256):(Zvw log l).length<=3084:=by
 have h1:=Zc5 log
 have h2:=Zie l
 simp only [Zvw,List.length_append,List.length_cons,List.length_nil]
 omega
theorem Ztd (a b c d:Int) (e:Bool) (f g:Int):(Zn6 a b c d e f g).length<=84:=Zie _
theorem Zge {log:Int} {l:List Int} (h:Zax log l=true):inB log 0 4=true/\1<=l.length/\l.length<=256/\Zga l 0 256=true:=by
 unfold Zax at h
 simp only [Bool.and_eq_true,decide_eq_true_eq] at h
 obtain ⟨h1,h2,h3⟩:=h
 have:=Zsq log
 exact ⟨h1,qo,qo,h3⟩
theorem Zt2 {l:List (List UInt8)} {B:Nat} (h:∀ x∈l,x.length<=B):(l.map List.length).sum<=l.length*B:=by
 induction l with
 | nil=>simp
 | cons a t ih =>
  have h1:=h a qs
  have h2:=ih (λx hx=>h x (by simp [hx]))
  rw [List.map_cons,List.sum_cons,List.length_cons,Nat.succ_mul]
  omega
theorem Zxd {s:EScene} (h:SceneIs s):∀ x∈Zbk s,x.length<=60000:=by
 intro x hx
 unfold Zbk Zn1 at hx
 simp only [List.mem_append,List.mem_cons,List.not_mem_nil,or_false,List.mem_map] at hx
 rcases hx with (((rfl|rfl|rfl)|⟨p,hp,rfl⟩)|⟨y,hy,rfl⟩)
 ·have:=Ztd s.a s.b s.c s.d s.e s.f s.g
  simp only [List.length_append,List.length_cons,List.length_nil];omega
 ·have:=Zsn (log:=s.log) (Zge h.tex).2.2.1
  simp only [List.length_append,List.length_cons,List.length_nil];omega
 ·have:=Zc5 s.side
  simp only [List.length_append,List.length_cons,List.length_nil];omega
 ·obtain ⟨i,hi,rfl⟩:=List.getElem_of_mem hp
  have:=Zwh (Zf0 (Zka h.shad hi));omega
 ·have:=Zo2 y;omega
theorem Zpp {s:EScene} (h:SceneIs s):(Zbk s).length<=11:=by
 have h1:=h.np
 have h2:=h.ns
 simp only [Zbk,Zn1,List.length_append,List.length_cons,List.length_nil,List.length_map]
 omega
theorem Zmx {s:EScene} (h:SceneIs s):(join (Zbk s) [10]).length<=660010:=by
 have h1:=Zpu 10 (Zbk s)
 have h2:=Zt2 (Zxd h)
 have h3:=Zpp h
 have:(Zbk s).length*60000<=660000:=qo
 omega
theorem Zt8 (s:EScene):(Zb0 s).length<=660011:=by
 unfold Zb0
 split
 ·next h =>
  have:=Zmx (Zkc h)
  rw [List.length_append]
  simp only [List.length_cons,List.length_nil];omega
 ·simp
def splitB (b:UInt8):List UInt8->List (List UInt8)
 | []=>[[]]
 | x::l=>if x=b then []::splitB b l else match splitB b l with
  | []=>[[x]]
  | h::t=>(x::h)::t
theorem Zft {b:UInt8}:∀ {u:List UInt8},(∀ x∈u,x≠b)->splitB b u=[u]
 | [],_=>rfl
 | x::u,h=>by
  have ih:=Zft (b:=b) (u:=u) (λy hy=>h y (by simp [hy]))
  unfold splitB
  rw [if_neg (h x (by simp)),ih]
theorem Zgy {b:UInt8}:∀ {u:List UInt8} (v:List UInt8),(∀ x∈u,x≠b)->splitB b (u++b::v)=u::splitB b v
 | [],v,_=>by
  rw [List.nil_append]
  conv=>lhs;unfold splitB
  rw [if_pos rfl]
 | x::u,v,h=>by
  have ih:=Zgy (b:=b) (u:=u) v (λy hy=>h y (by simp [hy]))
  rw [List.cons_append]
  conv=>lhs;unfold splitB
  rw [if_neg (h x (by simp)),ih]
theorem Zux {l:List UInt8} {f i:Nat} (h:f<=i) (hi:i<l.length):l.drop f=(l.take i).drop f++l[i]::l.drop (i+1):=by
 conv=>lhs;rw [<- List.take_append_drop i l]
 rw [List.drop_append_of_le_length (by simp;omega),List.drop_eq_getElem_cons hi]
theorem Zj7 (l:List UInt8) (a b:Nat):({ data:=l.toArray }:ByteArray).extract a b=⟨((l.take b).drop a).toArray⟩:=by
 apply ByteArray.ext
 rw [ByteArray.data_extract]
 apply Array.ext'
 simp [List.extract_eq_take_drop,List.drop_take]
theorem Zgx {b:UInt8}:∀ {l p:List UInt8},p∈splitB b l->p.length<=l.length
 | [],p,h=>by
  rw [show splitB b []=[[]] from rfl] at h
  simp at h;subst h;simp
 | x::l,p,h=>by
  have ih:=λ{q:List UInt8} (hq:q∈splitB b l)=>Zgx (b:=b) hq
  unfold splitB at h
  by_cases hx:x=b
  ·rw [if_pos hx] at h
   rcases List.mem_cons.1 h with rfl|h
   ·simp
   ·have:=ih h;simp;omega
  ·rw [if_neg hx] at h
   cases hs:splitB b l with
   | nil=>rw [hs] at h;simp at h;subst h;simp
   | cons a t =>
    rw [hs] at h
    simp only at h
    rcases List.mem_cons.1 h with rfl|h
    ·have:=ih (q:=a) (by rw [hs];simp)
     simp;omega
    ·have:=ih (q:=p) (by rw [hs];simp [h])
     simp;omega
theorem Zmj (b:UInt8) (l:List UInt8):0<(splitB b l).length:=by
 cases l with
 | nil=>simp [splitB]
 | cons x l =>
  unfold splitB
  split
  ·simp
  ·split<;>simp
theorem Zeb (b:UInt8):∀ l:List UInt8,(splitB b l).length<=l.length+1
 | []=>by simp [splitB]
 | x::l=>by
  have ih:=Zeb b l
  have h0:=Zmj b l
  unfold splitB
  split
  ·simp;omega
  ·split
   ·simp
   ·rename_i h t e;rw [e] at ih;simp at ih ⊢;omega
set_option maxRecDepth 100000
def Zgq (ls:List (List UInt8)) (w:World) (e:Ending) (w':World):Prop :=
 ∃ A c,e=.returned (.slice A ls.length c)/\RS w' 1 A ls.length c (Zck ls)/\(∀ x,x∈gOf A->w.heap.size<=x)/\Bw w w'
theorem idx_one (b x:UInt8):indexByte [b] ((x.toNat:Int).toNat.toUInt8)=if x=b then 0 else -1:=by
 have e:(x.toNat:Int).toNat.toUInt8=x:=qs
 rw [e]
 unfold indexByte
 by_cases h:x=b
 ·subst h;simp
 ·rw [if_neg h]
  have:(b==x)=false:=by rw [beq_eq_false_iff_ne];exact λe=>h e.symm
  rw [this]
  simp [indexByte]
theorem I_idx (b x:UInt8) (w:World):CL 130 #[.string ⟨#[b]⟩,.int .u8 x.toNat] w λe w'=>e=.returned (.int .i64 (if x=b then 0 else -1))/\w=w':=by
 have h:=Tryz.strings_IndexByte ⟨#[b]⟩ (x.toNat:Int) w
 rw [show (⟨#[b]⟩:ByteArray).data.toList=[b] from rfl,idx_one] at h
 exact h.mono λe w' ⟨h1,h2⟩=>⟨h1,h2.symm⟩
def Zk8 (b:UInt8) (l:List UInt8) (o:List (List UInt8)) (f i:Nat):Prop:=o++splitB b (l.drop f)=splitB b l/\f<=i/\∀ x∈(l.take i).drop f,x≠b
theorem Zk8.skip {b:UInt8} {l:List UInt8} {o:List (List UInt8)} {f i:Nat} (h:Zk8 b l o f i) (hi:i<l.length) (hx:l[i]≠b):Zk8 b l o f (i+1):=by
 refine ⟨h.1,by have:=h.2.1;omega,λx hm=>?_⟩
 rw [List.take_succ_eq_append_getElem hi,List.drop_append_of_le_length (by have:=h.2.1;simp;omega)] at hm
 rcases List.mem_append.1 hm with hm|hm
 ·exact h.2.2 x hm
 ·simp at hm;subst hm;exact hx
theorem Zk8.cut {b:UInt8} {l:List UInt8} {o:List (List UInt8)} {f i:Nat} (h:Zk8 b l o f i) (hi:i<l.length) (hx:l[i]=b):Zk8 b l (o++[(l.take i).drop f]) (i+1) (i+1):=by
 refine ⟨?_,Nat.le_refl _,λx hm=>?_⟩
 ·have h1:=h.1
  rw [Zux h.2.1 hi,hx,Zgy _ h.2.2] at h1
  rw [List.append_assoc]
  exact h1
 ·rw [List.drop_eq_nil_of_le (by simp;omega)] at hm
  cases hm
theorem Zk8.all {b:UInt8} {l:List UInt8} {o:List (List UInt8)} {f:Nat} (h:Zk8 b l o f l.length):o++[l.drop f]=splitB b l:=by
 have h2:=h.2.2
 rw [List.take_length] at h2
 rw [<- h.1,Zft h2]
theorem Zk8.len {b:UInt8} {l:List UInt8} {o:List (List UInt8)} {f i:Nat} (h:Zk8 b l o f i):o.length<=l.length+1:=by
 have h1:=congrArg List.length h.1
 rw [List.length_append] at h1
 have:=Zeb b l
 omega
theorem Zfs (b:UInt8) (l:List UInt8) (w:World) (hlim:l.length<=1048576) :
  CL 68 #[str l,.string ⟨#[b]⟩] w (Zgq (splitB b l) w):=by
 have HG0:=qh (Zaj (w.alloc (.cells #[] 9)) w.heap.size 9 1 (some ⟨w.heap.size,0,none⟩) 0 0 []) (Zaj.lit w #[] 0 rfl (Nat.le_refl _) (Nat.zero_le _))
 go_enter Tryz.func68,Tryz.ntmps68
 go_wp2_with fail
 go_loopw [5,6,7] (λo_ f_ i_ wr=>∃ (i f:Nat) (B:OA) (d:Nat) (o:List (List UInt8)),i<=l.length/\i_=.int .i64 i/\f_=.int .i64 f/\o_=.slice B o.length d/\Zk8 b l o f i/\Zaj wr w.heap.size 9 1 B o.length d (Zck o)/\Bw w wr) (λ_ _ i_ _=>l.length-(RowKit.intOf i_).toNat)
 case atStart=>exact ⟨0,0,_,_,[],Nat.zero_le _,rfl,rfl,rfl,⟨rfl,Nat.le_refl _,λx hx=>by simp at hx⟩,HG0.out,bll⟩
 case round =>
  obtain ⟨i,f,B,d,o,hi,rfl,rfl,rfl,hs,hg,hb⟩:=hrel
  obtain ⟨wo,rfl⟩:=qe wr
  have hol:=hs.len
  have hfi:=hs.2.1
  have HS:=hdQ hs
  have HG:=hdQ hg
  have HB:=hdQ hb
  have hz:=hb.size
  have hnn:o.length<=1048577:=qo
  clear hs hg hb HG0
  by_cases hlt:i<l.length
  ·obtain ⟨x,hx⟩:=qv (l[i])
   have hat:∀ hh:i<ByteArray.size ⟨l.toArray⟩,({ data:=l.toArray }:ByteArray)[i]'hh=x:=λhh=>hx
   have HX:=hdQ hx
   have hi1:IntKind.i64.wrap ((i:Int)+1)=i+1:=IntWalk.i64_in _ qo
   have i2:(i:Int)<l.length:=qo
   have i3:(i:Int)<=l.length:=qo
   have f2:(f:Int)<=i:=qo
   clear hx hol
   by_cases hxb:x=b
   ·subst hxb
    have HC:=hdQ (HS.out.cut hlt HX.out)
    obtain ⟨u,hu⟩:=qv ((l.take i).drop f)
    have hex:({ data:=l.toArray }:ByteArray).extract f i=⟨u.toArray⟩:=by rw [Zj7,hu]
    rw [hu] at HC
    clear hu
    go_wp2_with (first|(go_at_call 130;refine (I_idx _ _ _).mono ?_;rw [if_pos rfl];rintro e w' ⟨rfl,rfl⟩)|(at_builtin;refine wpA (w.heap.size) Tryz.underlying50 T.infoString (Zck o) (Zck [u]) (Zh6 _) ?_ ?_ ?_;exact (gwx HG.out);exact (ltt 1);rintro A' c' w2 gA;have g1:=gA.1;have g2:=gA.2.1;rw [Zfi] at g1;have HG1:=hdQ g1;have HB1:=qh (Bw w w2) (Below.trans (Below.alloc HB.out qo _) g2);clear gA g1 g2)|fail)
    go_roundw
    case rel=>exact ⟨i+1,i+1,_,_,_,qo,qg,qg,by rw [List.length_append];rfl,HC.out,by rw [List.length_append];exact HG1.out,HB1.out⟩
    case measure=>exact qn
   ·have HC:=hdQ (HS.out.skip hlt (by rw [HX.out];exact hxb))
    go_wp2_with (first|(go_at_call 130;refine (I_idx _ _ _).mono ?_;rw [if_neg hxb];rintro e w' ⟨rfl,rfl⟩)|fail)
    go_roundw
    case rel=>exact ⟨i+1,f,_,_,o,qo,qg,rfl,rfl,HC.out,HG.out,HB.out⟩
    case measure=>exact qn
  ·obtain rfl:i=l.length:=by omega
   have HA:=hdQ HS.out.all
   obtain ⟨u,hu⟩:=qv (l.drop f)
   have hex:({ data:=l.toArray }:ByteArray).extract f l.length=⟨u.toArray⟩:=by rw [Zj7,List.take_length,hu]
   have f2:(f:Int)<=l.length:=qo
   rw [hu] at HA
   clear hu hol
   go_wp2_with (at_builtin;refine wpA (w.heap.size) Tryz.underlying50 T.infoString (Zck o) (Zck [u]) (Zh6 _) ?_ ?_ ?_;exact (gwx HG.out);exact (ltt 1);rintro A' c' w2 gA;have g1:=gA.1;have g2:=gA.2.1;rw [Zfi] at g1;have HG1:=hdQ g1;have HB1:=qh (Bw w w2) (Below.trans bll g2);clear gA g1 g2)
   go_ret
   have hll:(splitB b l).length=o.length+1:=by rw [<- HA.out,List.length_append];rfl
   refine ⟨A',c',by rw [hll];rfl, ?_,HG1.out.ge,HB1.out⟩
   rw [hll,<- HA.out]
   exact HG1.out.rs
abbrev vPI (o:Option Int):Value:=.tuple #[.int .i64 (o.getD 0),.bool o.isSome]
theorem Zro (w:World) (t:TypeId) (s:ByteArray):Bw w (Lib.bytesWorld w t s) :=
 ⟨rfl,rfl,rfl,by rw [Lib.bytesWorld_size];omega,λj hj=>Lib.bytesWorld_at_old w t s j hj⟩
set_option maxHeartbeats 4000000 in
theorem Zef (l:List UInt8) (w:World) (hlim:l.length<=281474976710656) (he:Env w) :
  CR 72 #[str l] w ((vPI (parseI l))):=by
 by_cases hok:∃ v,atoiAll l=.ok v
 ·obtain ⟨v,ha⟩:=hok
  have hp:=Zhb (l:=l)
  rw [ha] at hp
  have HP:=hdQ hp
  clear hp
  go_enter Tryz.func72,Tryz.ntmps72
  go_wp2_with fail
  refine (Tryz.strconv_Atoi_ok ⟨l.toArray⟩ (by show l.length<=_;omega) v ha _).mono ?_
  rintro e w' ⟨rfl,hw⟩
  have hb:Bw w w':=by
   rcases hw with rfl|⟨t,rfl⟩
   ·exact Below.refl _ _
   ·exact Zro _ _ _
  clear hw
  have hne:¬ l=[]:=by rintro rfl;cases ha
  have hle:l.isEmpty=false:=by cases l with|nil=>exact absurd rfl hne|cons=>rfl
  by_cases hf:fmtI v=l
  ·have HF:=qh (parseI l=some v) (by rw [HP.out,if_pos ⟨hf,hne⟩])
   go_wp2_with fail
   refine (Zdv v _ (he.tab.step hb)).mono ?_
   rintro e w2 ⟨rfl,hb2⟩
   go_wp2_with fail
   exact bodyPost_ret (v:=vPI (some v)) (by simp [results,Tryz.results72,go_sem]) rfl ⟨by rw [HF.out],Below.step hb2 hb hb.size⟩
  ·have HF:=qh (parseI l=none) (by rw [HP.out,if_neg (λh=>hf h.1)])
   have hfb:(fmtI v==l)=false:=by simpa using hf
   go_wp2_with fail
   refine (Zdv v _ (he.tab.step hb)).mono ?_
   rintro e w2 ⟨rfl,hb2⟩
   go_wp2_with fail
   exact bodyPost_ret (v:=vPI none) (by simp [results,Tryz.results72,go_sem]) rfl ⟨by rw [HF.out],Below.step hb2 hb hb.size⟩
 ·have HP:=qh (parseI l=none) (by
   rw [Zhb]
   cases ha:atoiAll l
   ·exact absurd ⟨_,ha⟩ hok
   ·rfl
   ·rfl)
  have hbad:∀ v,atoiAll l ≠ .ok v:=λv ha=>hok ⟨v,ha⟩
  clear hok
  go_enter Tryz.func72,Tryz.ntmps72
  go_wp2_with fail
  refine (Atoi_bad ⟨l.toArray⟩ hlim hbad _ he).mono ?_
  rintro e w' ⟨v,N,rfl,hb⟩
  go_wp2_with fail
  exact bodyPost_ret (v:=vPI none) (by simp [results,Tryz.results72,go_sem]) rfl ⟨by rw [HP.out],hb⟩
def parseTo:List (List UInt8)->Option (List Int)
 | []=>some []
 | x::t=>(parseI x).bind λv=>(parseTo t).map λr=>v::r
theorem Zfc:∀ (a b:List (List UInt8)),parseTo (a++b)=(parseTo a).bind λu=>(parseTo b).map λr=>u++r
 | [],b=>by simp [parseTo]
 | x::t,b=>by
  simp only [List.cons_append,parseTo,Zfc t b]
  cases parseI x with
  | none=>rfl
  | some v =>
   simp only [Option.bind_some]
   cases parseTo t with
   | none=>rfl
   | some u=>cases parseTo b<;>rfl
theorem Zpg {ps:List (List UInt8)} {k:Nat} {o:List Int} {v:Int} (hk:k<ps.length) (h:parseTo (ps.take k)=some o) (hv:parseI ps[k]=some v):parseTo (ps.take (k+1))=some (o++[v]):=by
 rw [List.take_succ_eq_append_getElem hk,Zfc,h]
 simp [parseTo,hv]
theorem Zph {ps:List (List UInt8)} {k:Nat} (hk:k<ps.length) (hv:parseI ps[k]=none):parseTo ps=none:=by
 conv=>lhs;rw [<- List.take_append_drop k ps]
 rw [Zfc,List.drop_eq_getElem_cons hk]
 cases parseTo (ps.take k) with
 | none=>rfl
 | some u=>simp [parseTo,hv]
theorem Zhl:∀ {l:List Int},(∀ n∈l,Zca n)->parseTo (l.map fmtI)=some l
 | [],_=>rfl
 | n::l,h=>by
  have ih:=Zhl (l:=l) (λm hm=>h m (by simp [hm]))
  simp only [List.map_cons,parseTo,Zei (h n qs),Option.bind_some,ih,Option.map_some]
def Zbm (l:List UInt8):Option (List Int):=if l=[45] then some [] else parseTo (splitB 44 l)
theorem RS.farg {w w':World} {sz n c:Nat} {A:OA} {xs:List Value} (h:RS w sz A n c xs) (hs:w.heap.size<=w'.heap.size) (hf:∀ x,x∈gOf A->∀ o,w'.cell? ⟨x,o,none⟩=w.cell? ⟨x,o,none⟩):RS w' sz A n c xs:=by
 obtain ⟨hl,A0,c0,hv,hn,hc,h0⟩:=h
 refine ⟨hl,A0,c0,hv,hn,hc,λhp=>?_⟩
 obtain ⟨b,o,hA,h1,h2,h3⟩:=h0 hp
 simp only [Value.slice.injEq] at hv
 obtain ⟨rfl,_,rfl⟩:=hv
 subst hA
 exact ⟨b,o,rfl,h1,Nat.lt_of_lt_of_le h2 hs,λj hj=>(hf b (by simp [gOf]) _).trans (h3 j hj)⟩
def OutPL (r:Option (List Int)) (w:World) (e:Ending) (w':World):Prop :=
 ∃ A c,e=.returned (.tuple #[.slice A (r.getD []).length c,.bool r.isSome])/\Zdb w' 1 A (r.getD []).length c 3 (ints (r.getD []))/\(∀ x,x∈gOf A->w.heap.size<=x)/\Bw w w'
theorem Zhy (l:List UInt8) (w:World) (hlim:l.length<=1048576) (he:Env w) :
  CL 132 #[str l] w (OutPL (Zbm l) w):=by
 have HE:=hdQ he
 clear he
 have HG0:=qh (Zaj (w.alloc (.cells #[] 3)) w.heap.size 3 1 (some ⟨w.heap.size,0,none⟩) 0 0 []) (Zaj.lit w #[] 0 rfl (Nat.le_refl _) (Nat.zero_le _))
 by_cases h45:l=[45]
 ·subst h45
  go_enter Tryz.func132,Tryz.ntmps132
  go_wp2_with fail
  exact bodyPost_ret (v:=.tuple #[.slice (some ⟨w.heap.size,0,none⟩) 0 0,.bool true]) (by simp [results,Tryz.results132,go_sem]) rfl ⟨_,_,rfl,HG0.out.ownS,HG0.out.ge,bll⟩
 ·have HPL:=qh (Zbm l=parseTo (splitB 44 l)) (by unfold Zbm;rw [if_neg h45])
  have hb45:(l==[45])=false:=by simpa using h45
  obtain ⟨ps,hps⟩:=qv (splitB 44 l)
  have HPS:=qh (∀ k (hk:k<ps.length),ps[k].length<=l.length) (λk hk=>Zgx (b:=44) (by rw [hps];exact List.getElem_mem hk))
  have hpl:ps.length<=1048577:=by have:=Zeb 44 l;rw [hps] at this;omega
  have HSA:=qh (∀ wx,CL 68 #[str l,.string ⟨#[44]⟩] wx (Zgq ps wx)) (λwx=>by have:=Zfs 44 l wx hlim;rwa [hps] at this)
  rw [hps] at HPL
  clear hps
  go_enter Tryz.func132,Tryz.ntmps132
  go_wp2_with fail
  refine (HSA.out _).mono ?_
  rintro e w1 ⟨P,pc,rfl,hrs,hpg,hb⟩
  have hP0:∀ x,x∈gOf P->w.heap.size+1<=x:=λx hx=>by have:=hpg x hx;simpa using this
  have HP0:=qh (∀ x,x∈gOf (some (⟨w.heap.size,0,none⟩:Addr))->x∉gOf P) (λx hx hm=>by have:=hP0 x hm;simp [gOf] at hx;omega)
  clear hpg hP0
  have HRS:=hdQ hrs
  have HB1:=qh (Bw w w1) bll
  have HG1:=qh (Zaj w1 w.heap.size 3 1 (some ⟨w.heap.size,0,none⟩) 0 0 []) (Zaj.step hb HG0.out)
  clear hrs hb HG0
  go_wp2_with fail
  go_loopw [4,6,7,8,16] (λo_ _ _ _ i_ wr=>∃ (k:Nat) (o:List Int) (B:OA) (d:Nat),k<=ps.length/\i_=.int .i64 k/\o_=.slice B k d/\parseTo (ps.take k)=some o/\o.length=k/\Zaj wr w.heap.size 3 1 B k d (ints o)/\RS wr 1 P ps.length pc (Zck ps)/\(∀ x,x∈gOf B->x∉gOf P)/\Bw w wr) (λ_ _ _ _ i_ _=>ps.length-(RowKit.intOf i_).toNat)
  case atStart=>exact ⟨0,[],_,_,Nat.zero_le _,rfl,rfl,rfl,rfl,HG1.out,HRS.out,HP0.out,HB1.out⟩
  case round =>
   obtain ⟨k,o,B,d,hk,rfl,rfl,ht,hok,hg,hr1,hdj,hb⟩:=hrel
   have HT:=hdQ ht
   have HOK:=hdQ hok
   have HG:=hdQ hg
   have HB:=hdQ hb
   have hz:=hb.size
   have HR:=hdQ hr1
   have HDJ:=hdQ hdj
   clear ht hok hg hr1 hdj hb
   by_cases hlt:k<ps.length
   ·obtain ⟨b,off,rfl,hbh,hcell⟩:=HR.out.open_.2.2 qo
    have c1:wr.cell? ⟨b,off+k,none⟩=some (str ps[k]):=by rw [hcell k qo,Zit hlt]
    have hxl:=HPS.out k hlt
    have i2:(k:Int)<ps.length:=qo
    clear hcell
    cases hv:parseI ps[k] with
    | none =>
     have HN:=qh (Zbm l=none) (by rw [HPL.out];exact Zph hlt hv)
     generalize hx:ps[k]=x at *
     clear hx
     go_wp2_with fail
     refine (Zef _ _ qo (HE.out.step (by first|exact HB.out|exact bll))).mono ?_
     rintro e wA ⟨rfl,hbA⟩
     rw [hv]
     go_wp2_with fail
     rw [HN.out]
     exact bodyPost_ret (v:=.tuple #[.slice none 0 0,.bool false]) (by simp [results,Tryz.results132,go_sem]) rfl ⟨none,0,rfl,Zdb.none_ _ _ _,λx hx=>absurd hx (by simp [gOf]),Below.step hbA HB.out HB.out.size⟩
    | some v =>
     have HS:=hdQ (Zpg hlt HT.out hv)
     generalize hx:ps[k]=x at *
     clear hx
     go_wp2_with fail
     refine (Zef _ _ qo (HE.out.step (by first|exact HB.out|exact bll))).mono ?_
     rintro e wA ⟨rfl,hbA⟩
     have zA:=hbA.size
     (try simp at zA)
     have HGA:=qh (Zaj wA w.heap.size 3 1 B k d (ints o)) (Zaj.step hbA HG.out)
     have HBA:=qh (Bw w wA) (Below.step hbA HB.out HB.out.size)
     have HRA:=qh (RS wA 1 (some ⟨b,off,none⟩) ps.length pc (Zck ps)) (RS.step hbA HR.out)
     have hbB:b∉gOf B:=λhm=>HDJ.out b hm (by simp [gOf])
     clear hbA
     rw [hv]
     go_wp2_with (at_builtin;refine wpA (w.heap.size) Tryz.underlying24 T.infoInt (ints o) (ints [v]) (Zc4 _) ?_ ?_ ?_;exact (gwx HGA.out);exact (ltt 1);rintro A' c' w2 gA;have g1:=gA.1;have g2:=gA.2.1;have HF:=hdQ (Za8.far gA (b:=b) (by simp;omega) hbB).1;have HO:=hdQ gA.2.2.2.2;have gZ:=gA.2.2.2.1;(try simp at gZ);have HG2:=qh (Zaj w2 w.heap.size 3 1 A' (k+1) c' (ints (o++[v]))) (by have e:ints (o++[v])=ints o++ints [v]:=qs;rw [e];exact g1);have HB2:=qh (Bw w w2) (Below.trans bll g2);clear gA g1 g2)
     have HR2:=qh (RS w2 1 (some ⟨b,off,none⟩) ps.length pc (Zck ps)) (RS.farg (RS.alloc HRA.out _) (by simp;omega) (λx hx o=>by simp [gOf] at hx;subst hx;exact HF.out o))
     have HD2:=qh (∀ x,x∈gOf A'->x∉gOf (some (⟨b,off,none⟩:Addr))) (λx hx hm=>by
      simp [gOf] at hm;subst hm
      rcases HO.out with e|e
      ·rw [e] at hx;exact hbB hx
      ·rw [e] at hx;simp at hx;omega)
     go_roundw
     case rel=>exact ⟨k+1,o++[v],_,_,qo,qg,rfl,HS.out,by rw [List.length_append,HOK.out];rfl,HG2.out,HR2.out,HD2.out,HB2.out⟩
     case measure=>exact qn
   ·obtain rfl:k=ps.length:=by omega
    have HN:=qh (Zbm l=some o) (by rw [HPL.out];have:=HT.out;rwa [List.take_length] at this)
    have hol:o.length=ps.length:=HOK.out
    go_wp2_with fail
    rw [HN.out]
    exact bodyPost_ret (v:=.tuple #[.slice B o.length d,.bool true]) (by simp [results,Tryz.results132,go_sem,hol]) rfl ⟨B,d,rfl,by have:=HG.out.ownS;rw [<- hol] at this;exact this,HG.out.ge,HB.out⟩
end
section
abbrev Zam:=Int×List UInt8×Int×Int
def isDg (b:UInt8):Bool:=decide (48<=b)&&decide (b<=57)
def isLt (b:UInt8):Bool:=decide (97<=b)&&decide (b<=122)
def Zgb (b:UInt8):Bool:=decide (b=32)||decide (b=10)
def Znj:List UInt8:=[43,45,42,47,40,41,44,61,59]
def isSy (b:UInt8):Bool:=Znj.contains b
def Zav (f:UInt8->Bool):List UInt8->Nat
 | []=>0
 | b::l=>if f b then Zav f l+1 else 0
def valN:List UInt8->Nat->Nat
 | [],n=>n
 | b::l,n=>valN l (10*n+(b.toNat-48))
def Zgu (l:List UInt8):Nat:=valN l 0
def numTok (l:List UInt8):Option (Nat×Nat) :=
 let d:=Zav isDg l
 if 4<d then none
 else if l[d]? = some 46 then
  let p:=Zav isDg (l.drop (d+1))
  if p<1∨4<p then none else some (d+1+p,Zgu (l.take d)*256+Zgu ((l.drop (d+1)).take p)*256 / 10 ^ p)
 else some (d,Zgu (l.take d)*256)
def Zaq (l:List UInt8):Option (Int×Nat×Nat) :=
 match l with
 | []=>none
 | b::_ =>
  if isDg b then (numTok l).map λx=>(1,x.1,x.2)
  else if isLt b then
   let n:=Zav (λc=>isLt c||isDg c) l
   if 8<n then none else some (2,n,0)
  else if isSy b then some (3,1,0)
  else none
theorem Zgz (f:UInt8->Bool) (l:List UInt8):Zav f l<=l.length:=by
 induction l with
 | nil=>exact Nat.le_refl _
 | cons b l ih=>unfold Zav;split<;>simp<;>omega
theorem Zo5 {f:UInt8->Bool} {b:UInt8} {l:List UInt8} (h:f b=true):0<Zav f (b::l):=by unfold Zav;rw [if_pos h];omega
theorem Znl {f:UInt8->Bool} {l:List UInt8} {j:Nat} (h:j<Zav f l):∃ b,l[j]? = some b/\f b=true:=by
 induction l generalizing j with
 | nil=>simp [Zav] at h
 | cons b l ih =>
  unfold Zav at h
  by_cases hb:f b=true
  ·rw [if_pos hb] at h
   match j with
   | 0=>exact ⟨b,rfl,hb⟩
   | j+1=>exact ih (by omega)
  ·rw [if_neg hb] at h;omega
theorem Zo6 {f:UInt8->Bool} {l:List UInt8} {b:UInt8} (h:l[Zav f l]? = some b):f b=false:=by
 induction l with
 | nil=>simp at h
 | cons c l ih =>
  unfold Zav at h
  by_cases hb:f c=true
  ·rw [if_pos hb] at h;exact ih h
  ·rw [if_neg hb] at h
   obtain rfl:c=b:=by simpa using h
   simpa using hb
theorem Zes {f:UInt8->Bool} {l:List UInt8} {n:Nat} (h1:∀ j,j<n->∃ b,l[j]? = some b/\f b=true) (h2:∀ b,l[n]? = some b->f b=false):Zav f l=n:=by
 rcases Nat.lt_trichotomy (Zav f l) n with h|h|h
 ·obtain ⟨b,hb,hf⟩:=h1 _ h
  rw [Zo6 hb] at hf;cases hf
 ·exact h
 ·obtain ⟨b,hb,hf⟩:=Znl h
  rw [h2 b hb] at hf;cases hf
theorem Zmq {l:List UInt8} {n v:Nat} (h:numTok l=some (n,v)):n<=l.length/\Zav isDg l<=n:=by
 unfold numTok at h
 dsimp only at h
 split at h
 ·cases h
 ·split at h
  ·rename_i h46
   have hd:Zav isDg l<l.length:=by
    rcases Nat.lt_or_ge (Zav isDg l) l.length with h'|h'
    ·exact h'
    ·rw [List.getElem?_eq_none h'] at h46;cases h46
   split at h
   ·cases h
   ·have:=Zgz isDg (l.drop (Zav isDg l+1))
    simp only [Option.some.injEq,Prod.mk.injEq,List.length_drop] at h this
    omega
  ·simp only [Option.some.injEq,Prod.mk.injEq] at h
   have:=Zgz isDg l
   omega
theorem Zc7 {l:List UInt8} {k:Int} {n v:Nat} (h:Zaq l=some (k,n,v)):0<n/\n<=l.length:=by
 unfold Zaq at h
 match l,h with
 | b::l,h =>
  simp only at h
  split at h
  ·rename_i hb
   obtain ⟨⟨n',v'⟩,hx,he⟩:=Option.map_eq_some_iff.1 h
   have h1:=Zmq hx
   have h2:=Zo5 (l:=l) hb
   simp only [Prod.mk.injEq] at he
   omega
  ·split at h
   ·rename_i hb
    split at h
    ·cases h
    ·simp only [Option.some.injEq,Prod.mk.injEq] at h
     have h1:=Zgz (λc=>isLt c||isDg c) (b::l)
     have h2:=Zo5 (f:=λc=>isLt c||isDg c) (b:=b) (l:=l) (by simp [hb])
     omega
   ·split at h
    ·simp only [Option.some.injEq,Prod.mk.injEq] at h
     simp only [List.length_cons];omega
    ·cases h
def tokz (src:List UInt8):Nat->Nat->List Zam->Except Nat (List Zam)
 | 0,_,l=>.ok l
 | n+1,at_,l =>
  match src[at_]? with
  | none=>.ok l
  | some b =>
   if Zgb b then tokz src n (at_+1) l
   else match Zaq (src.drop at_) with
    | none=>.error at_
    | some (k,m,v)=>tokz src n (at_+m) (l++[(k,(src.drop at_).take m,(v:Int),(at_:Int))])
def toksF (src:List UInt8):Except Nat (List Zam) :=
 if 2000<src.length then .error 0
 else (tokz src (src.length+1) 0 []).map (· ++ [(0,[],0,(src.length:Int))])
theorem Zea {src:List UInt8} {n a:Nat} {l:List Zam} {b:UInt8} (h:src[a]? = some b) (hb:Zgb b=true):tokz src (n+1) a l=tokz src n (a+1) l:=by
 rw [tokz,h];simp [hb]
theorem Zh4 {src:List UInt8} {n a:Nat} {l:List Zam} {b:UInt8} (h:src[a]? = some b) (hb:Zgb b=false) (hs:Zaq (src.drop a)=none):tokz src (n+1) a l=.error a:=by
 rw [tokz,h];simp [hb,hs]
theorem Zgw {src:List UInt8} {n a m v:Nat} {k:Int} {l:List Zam} {b:UInt8} (h:src[a]? = some b) (hb:Zgb b=false) (hs:Zaq (src.drop a)=some (k,m,v)):tokz src (n+1) a l=tokz src n (a+m) (l++[(k,(src.drop a).take m,(v:Int),(a:Int))]):=by
 rw [tokz,h];simp [hb,hs]
theorem Zer {src:List UInt8} {n a:Nat} {l:List Zam} (h:src.length<=a):tokz src n a l=.ok l:=by
 cases n with
 | zero=>rfl
 | succ n=>rw [tokz,List.getElem?_eq_none h]
theorem Zov {src:List UInt8}:∀ (n m a:Nat) (l:List Zam),src.length<a+n->src.length<a+m->tokz src n a l=tokz src m a l:=by
 intro n
 induction n with
 | zero=>intro m a l h1 h2;rw [Zer (by omega),Zer (by omega)]
 | succ n ih =>
  intro m a l h1 h2
  rcases Nat.lt_or_ge a src.length with h|h
  ·match m with
   | 0=>omega
   | m+1 =>
    have hb:=List.getElem?_eq_getElem h
    cases hs:Zgb src[a] with
    | true=>rw [Zea hb hs,Zea hb hs];exact ih _ _ _ (by omega) (by omega)
    | false =>
     cases hk:Zaq (src.drop a) with
     | none=>rw [Zh4 hb hs hk,Zh4 hb hs hk]
     | some x =>
      obtain ⟨k,j,v⟩:=x
      have hj:=Zc7 hk
      rw [Zgw hb hs hk,Zgw hb hs hk]
      exact ih _ _ _ (by omega) (by omega)
  ·rw [Zer h,Zer h]
def tk (T:List Zam) (i:Nat):Zam:=T.getD i (0,[],0,0)
def kd (T:List Zam) (i:Nat):Int:=(tk T i).1
def tx (T:List Zam) (i:Nat):List UInt8:=(tk T i).2.1
def nm (T:List Zam) (i:Nat):Int:=(tk T i).2.2.1
def of_ (T:List Zam) (i:Nat):Int:=(tk T i).2.2.2
def pk (T:List Zam) (i:Nat):List UInt8:=if kd T i=3 then tx T i else []
inductive PR where
 | ok (v:Int) (at_:Nat) (ns:List Zac)
 | bad (o:Int)
 | out
def emit (T:List Zam) (n:Zac) (a:Nat) (ns:List Zac):PR:=if ns.length=60 then .bad (of_ T (a-1)) else .ok ns.length a (ns++[n])
inductive PM where
 | bin (add:Bool)
 | loop (add:Bool) (v:Int)
 | fac
 | args (name:List UInt8) (as_:List Int)
def opS (add:Bool) (x:List UInt8):Int :=
 if add then (if x=[43] then 4 else if x=[45] then 5 else 0) else (if x=[42] then 6 else if x=[47] then 7 else 0)
def opd (add:Bool):PM:=if add then .bin false else .fac
def prs (T:List Zam):Nat->PM->Nat->Nat->List Zac->PR
 | 0,_,_,_,_=>.out
 | n+1,.bin add,d,a,ns =>
  match prs T n (opd add) d a ns with
  | .ok v a1 n1=>prs T n (.loop add v) d a1 n1
  | .bad o=>.bad o
  | .out=>.out
 | n+1,.loop add v,d,a,ns =>
  if opS add (pk T a)=0 then .ok v a ns
  else match prs T n (opd add) d (a+1) ns with
   | .ok b a1 n1 =>
    match emit T (opS add (pk T a),[],0,[v,b]) a1 n1 with
    | .ok u a2 n2=>prs T n (.loop add u) d a2 n2
    | .bad o=>.bad o
    | .out=>.out
   | .bad o=>.bad o
   | .out=>.out
 | n+1,.fac,d,a,ns =>
  if 64<d then .bad (of_ T a)
  else if pk T a=[45] then
   match prs T n .fac (d+1) (a+1) ns with
   | .ok v a1 n1=>emit T (3,[],0,[v]) a1 n1
   | .bad o=>.bad o
   | .out=>.out
  else if pk T a=[40] then
   match prs T n (.bin true) (d+1) (a+1) ns with
   | .ok v a1 n1=>if pk T a1=[41] then .ok v (a1+1) n1 else .bad (of_ T a1)
   | .bad o=>.bad o
   | .out=>.out
  else if kd T a=1 then emit T (1,[],nm T a,[]) (a+1) ns
  else if kd T a=2 then
   if pk T (a+1)=[40] then prs T n (.args (tx T a) []) (d+1) (a+2) ns
   else emit T (2,tx T a,0,[]) (a+1) ns
  else .bad (of_ T a)
 | n+1,.args name l,d,a,ns =>
  if l=[]/\pk T a=[41] then emit T (8,name,0,[]) (a+1) ns
  else if l.length=3 then .bad (of_ T a)
  else match prs T n (.bin true) d a ns with
   | .ok v a1 n1 =>
    if pk T a1=[44] then prs T n (.args name (l++[v])) d (a1+1) n1
    else if pk T a1=[41] then emit T (8,name,0,l++[v]) (a1+1) n1
    else .bad (of_ T a1)
   | .bad o=>.bad o
   | .out=>.out
def asg (T:List Zam) (N:Nat):Nat->Nat->List Zac->List Zab->Option (Except Int Zag)
 | 0,_,_,_=>none
 | n+1,a,ns,l =>
  if kd T a=0 then some (.ok (ns,l))
  else if kd T a≠2 then some (.error (of_ T a))
  else if pk T (a+1)≠[61] then some (.error (of_ T (a+1)))
  else match prs T N (.bin true) 1 (a+2) ns with
   | .ok v a1 n1=>if pk T a1=[59] then asg T N n (a1+1) n1 (l++[(tx T a,v)]) else some (.error (of_ T a1))
   | .bad o=>some (.error o)
   | .out=>none
structure TokOk (T:List Zam):Prop where
 pos:0<T.length
 last:kd T (T.length-1)=0
 inner:∀ i,i+1<T.length->kd T i≠0
theorem Zdg {T:List Zam} (h:TokOk T) {i:Nat} (hi:i<T.length) (hp:pk T i≠[]):i+1<T.length:=by
 rcases Nat.lt_or_ge (i+1) T.length with h'|h'
 ·exact h'
 ·have e:i=T.length-1:=by omega
  unfold pk at hp
  rw [e,h.last] at hp
  simp at hp
theorem Zjn {T:List Zam} (h:TokOk T) {i:Nat} (hi:i<T.length) (hp:kd T i≠0):i+1<T.length:=by
 rcases Nat.lt_or_ge (i+1) T.length with h'|h'
 ·exact h'
 ·have e:i=T.length-1:=by omega
  rw [e,h.last] at hp
  exact absurd rfl hp
theorem opS_ne {add:Bool} {x:List UInt8} (h:opS add x≠0):x≠[]:=by
 rintro rfl
 cases add<;>simp [opS] at h
theorem Zhs {T:List Zam} {n:Zac} {a a1:Nat} {ns n1:List Zac} {v:Int} (h:emit T n a ns=.ok v a1 n1):a1=a/\v=ns.length/\n1=ns++[n]/\ns.length≠60:=by
 unfold emit at h
 split at h
 ·cases h
 ·injection h with h1 h2 h3
  exact ⟨h2.symm,h1.symm,h3.symm,by assumption⟩
def mu:PM->Nat
 | .fac=>1
 | .bin false=>2
 | .bin true=>3
 | .loop _ _=>4
 | .args _ _=>4
def st:PM->Nat
 | .loop _ _=>0
 | _=>1
def Zla (T:List Zam) (m:PM) (a:Nat) (r:PR):Prop:=r ≠ .out/\∀ v a1 n1,r=.ok v a1 n1->a+st m<=a1/\a1<T.length
theorem Zla.bad {T:List Zam} {m:PM} {a:Nat} {o:Int}:Zla T m a (.bad o):=⟨qs,qs⟩
theorem Zla.emit {T:List Zam} {m:PM} {a b:Nat} {n:Zac} {ns:List Zac} (h1:a+st m<=b) (h2:b<T.length):Zla T m a (emit T n b ns):=by
 refine ⟨by unfold Go.Proofs.YticdknjoapdmeaaGreatDoor.emit;split<;>simp,λv a1 n1 h=>?_⟩
 obtain ⟨rfl,_⟩:=Zhs h
 exact ⟨h1,h2⟩
theorem Zla.up {T:List Zam} {m m':PM} {a b:Nat} {r:PR} (h:Zla T m' b r) (hb:a+st m<=b+st m'):Zla T m a r:=⟨h.1,λv a1 n1 e=>by have:=h.2 v a1 n1 e;omega⟩
theorem Zbq {T:List Zam} (h:TokOk T):∀ (n:Nat) (m:PM) (d a:Nat) (ns:List Zac),a<T.length->mu m+4*(T.length-a)<=n->Zla T m a (prs T n m d a ns):=by
 intro n
 induction n with
 | zero=>intro m d a ns ha hn;omega
 | succ n ih =>
  intro m d a ns ha hn
  have hop:∀ add,mu (opd add)+1=mu (.bin add)/\st (opd add)=1:=by intro add;cases add<;>exact ⟨rfl,rfl⟩
  match m with
  | .bin add =>
   have hm:=(hop add).1
   have hs:=(hop add).2
   have h1:=ih (opd add) d a ns ha qo
   rw [prs]
   cases hr:prs T n (opd add) d a ns with
   | out=>exact absurd hr h1.1
   | bad o=>exact .bad
   | ok v a1 n1 =>
    have h2:=h1.2 v a1 n1 hr
    rw [hs] at h2
    have hb:2<=mu (.bin add):=by cases add<;>simp [mu]
    have h3:=ih (.loop add v) d a1 n1 h2.2 (by show 4+_<=n;omega)
    exact h3.up (by show a+1<=a1+0;omega)
  | .loop add v =>
   rw [prs]
   split
   ·refine ⟨qs,λv1 a1 n1 e=>?_⟩
    injection e with e1 e2 e3
    subst e2
    exact ⟨Nat.le_refl _,ha⟩
   ·rename_i hne
    have hin:=Zdg h ha (opS_ne hne)
    have hm:mu (opd add)<=2:=by cases add<;>simp [opd,mu]
    have hs:=(hop add).2
    have hn':4+4*(T.length-a)<=n+1:=hn
    have h1:=ih (opd add) d (a+1) ns hin qo
    cases hr:prs T n (opd add) d (a+1) ns with
    | out=>exact absurd hr h1.1
    | bad o=>exact .bad
    | ok b a1 n1 =>
     have h2:=h1.2 b a1 n1 hr
     rw [hs] at h2
     show Zla T _ a (match emit T (opS add (pk T a),[],0,[v,b]) a1 n1 with | .ok u a2 n2=>prs T n (.loop add u) d a2 n2 | .bad o=>.bad o | .out=>.out)
     cases he:emit T (opS add (pk T a),[],0,[v,b]) a1 n1 with
     | out=>unfold emit at he;split at he<;>cases he
     | bad o=>exact .bad
     | ok u a2 n2 =>
      obtain ⟨rfl,_⟩:=Zhs he
      have h3:=ih (.loop add u) d a2 n2 h2.2 (by show 4+_<=n;omega)
      exact h3.up (by show a+0<=a2+0;omega)
  | .fac =>
   have hn':1+4*(T.length-a)<=n+1:=hn
   rw [prs]
   split
   ·exact .bad
   split
   ·rename_i hp
    have hin:=Zdg h ha (by rw [hp];simp)
    have h1:=ih .fac (d+1) (a+1) ns hin (by show 1+_<=n;omega)
    cases hr:prs T n .fac (d+1) (a+1) ns with
    | out=>exact absurd hr h1.1
    | bad o=>exact .bad
    | ok v a1 n1 =>
     have h2:a+1+1<=a1/\a1<T.length:=h1.2 v a1 n1 hr
     exact .emit (by show a+1<=a1;omega) h2.2
   split
   ·rename_i hp
    have hin:=Zdg h ha (by rw [hp];simp)
    have h1:=ih (.bin true) (d+1) (a+1) ns hin (by show 3+_<=n;omega)
    cases hr:prs T n (.bin true) (d+1) (a+1) ns with
    | out=>exact absurd hr h1.1
    | bad o=>exact .bad
    | ok v a1 n1 =>
     have h2:a+1+1<=a1/\a1<T.length:=h1.2 v a1 n1 hr
     show Zla T _ a (if pk T a1=[41] then .ok v (a1+1) n1 else .bad (of_ T a1))
     split
     ·rename_i hq
      have hin2:=Zdg h h2.2 (by rw [hq];simp)
      refine ⟨qs,λv1 a2 n2 e=>?_⟩
      injection e with e1 e2 e3
      subst e2
      exact ⟨by show a+1<=a1+1;omega,hin2⟩
     ·exact .bad
   split
   ·rename_i hk
    have hin:=Zjn h ha (by rw [hk];decide)
    exact .emit (Nat.le_refl _) hin
   split
   ·rename_i hk
    have hin:=Zjn h ha (by rw [hk];decide)
    split
    ·rename_i hp
     have hin2:=Zdg h hin (by rw [hp];simp)
     have h1:=ih (.args (tx T a) []) (d+1) (a+2) ns hin2 (by show 4+_<=n;omega)
     exact h1.up (by show a+1<=a+2+1;omega)
    ·exact .emit (Nat.le_refl _) hin
   ·exact .bad
  | .args name l =>
   have hn':4+4*(T.length-a)<=n+1:=hn
   rw [prs]
   split
   ·rename_i hp
    have hin:=Zdg h ha (by rw [hp.2];simp)
    exact .emit (Nat.le_refl _) hin
   split
   ·exact .bad
   ·have h1:=ih (.bin true) d a ns ha (by show 3+_<=n;omega)
    cases hr:prs T n (.bin true) d a ns with
    | out=>exact absurd hr h1.1
    | bad o=>exact .bad
    | ok v a1 n1 =>
     have h2:a+1<=a1/\a1<T.length:=h1.2 v a1 n1 hr
     show Zla T _ a (if pk T a1=[44] then prs T n (.args name (l++[v])) d (a1+1) n1 else if pk T a1=[41] then emit T (8,name,0,l++[v]) (a1+1) n1 else .bad (of_ T a1))
     split
     ·rename_i hq
      have hin2:=Zdg h h2.2 (by rw [hq];simp)
      have h3:=ih (.args name (l++[v])) d (a1+1) n1 hin2 (by show 4+_<=n;omega)
      exact h3.up (by show a+1<=a1+1+1;omega)
     split
     ·rename_i hq
      have hin2:=Zdg h h2.2 (by rw [hq];simp)
      exact .emit (by show a+1<=a1+1;omega) hin2
     ·exact .bad
def Zc1 (T:List Zam):Nat:=4*T.length+8
theorem Ztj {T:List Zam} (h:TokOk T) {N:Nat} (hN:Zc1 T<=N):∀ (n a:Nat) (ns:List Zac) (l:List Zab),a<T.length->T.length-a<n->∃ r,asg T N n a ns l=some r:=by
 intro n
 induction n with
 | zero=>intro a ns l ha hn;omega
 | succ n ih =>
  intro a ns l ha hn
  rw [asg]
  split
  ·exact ⟨_,rfl⟩
  rename_i hk
  split
  ·exact ⟨_,rfl⟩
  split
  ·exact ⟨_,rfl⟩
  rename_i hk2 hp
  have hin:=Zjn h ha hk
  have hp2:pk T (a+1)=[61]:=Classical.not_not.1 hp
  have hin2:=Zdg h hin (by rw [hp2];simp)
  unfold Zc1 at hN
  have h1:=Zbq h N (.bin true) 1 (a+2) ns hin2 (by show 3+_<=N;omega)
  cases hr:prs T N (.bin true) 1 (a+2) ns with
  | out=>exact absurd hr h1.1
  | bad o=>exact ⟨_,rfl⟩
  | ok v a1 n1 =>
   have h2:a+2+1<=a1/\a1<T.length:=h1.2 v a1 n1 hr
   show ∃ r,(if pk T a1=[59] then asg T N n (a1+1) n1 (l++[(tx T a,v)]) else some (.error (of_ T a1)))=some r
   split
   ·rename_i hq
    exact ih _ _ _ (Zdg h h2.2 (by rw [hq];simp)) qo
   ·exact ⟨_,rfl⟩
def Zpi (T:List Zam):Zag×Int :=
 match asg T (Zc1 T) (T.length+1) 0 [] [] with
 | some (.ok p)=>(p, -1)
 | some (.error o)=>(([],[]),o)
 | none=>(([],[]),0)
def parF (src:List UInt8):Zag×Int :=
 match toksF src with
 | .error o=>(([],[]),(o:Int))
 | .ok T=>Zpi T
theorem Zo9 {l:List UInt8} {k:Int} {n v:Nat} (h:Zaq l=some (k,n,v)):k=1∨k=2∨k=3:=by
 unfold Zaq at h
 match l,h with
 | b::l,h =>
  simp only at h
  split at h
  ·obtain ⟨⟨n',v'⟩,hx,he⟩:=Option.map_eq_some_iff.1 h
   simp only [Prod.mk.injEq] at he
   exact .inl he.1.symm
  ·split at h
   ·split at h
    ·cases h
    ·simp only [Option.some.injEq,Prod.mk.injEq] at h
     exact .inr (.inl h.1.symm)
   ·split at h
    ·simp only [Option.some.injEq,Prod.mk.injEq] at h
     exact .inr (.inr h.1.symm)
    ·cases h
theorem Zsl {src:List UInt8} {Pt:Zam->Prop} (hs:∀ a k m v,Zaq (src.drop a)=some (k,m,v)->Pt (k,(src.drop a).take m,(v:Int),(a:Int))):∀ (n a:Nat) (l r:List Zam),(∀ x∈l,Pt x)->tokz src n a l=.ok r->∀ x∈r,Pt x:=by
 intro n
 induction n with
 | zero=>intro a l r hl h;injection h with h;subst h;exact hl
 | succ n ih =>
  intro a l r hl h
  rcases Nat.lt_or_ge a src.length with ha|ha
  ·have hb:=List.getElem?_eq_getElem ha
   cases hsp:Zgb src[a] with
   | true=>rw [Zea hb hsp] at h;exact ih _ _ _ hl h
   | false =>
    cases hk:Zaq (src.drop a) with
    | none=>rw [Zh4 hb hsp hk] at h;cases h
    | some x =>
     obtain ⟨k,m,v⟩:=x
     rw [Zgw hb hsp hk] at h
     refine ih _ _ _ (λx hx=>?_) h
     rcases List.mem_append.1 hx with hx|hx
     ·exact hl x hx
     ·obtain rfl:=List.mem_singleton.1 hx
      exact hs a k m v hk
  ·rw [Zer ha] at h;injection h with h;subst h;exact hl
theorem Zju {src:List UInt8} {T:List Zam} (h:toksF src=.ok T):TokOk T:=by
 unfold toksF at h
 split at h
 ·cases h
 ·cases hz:tokz src (src.length+1) 0 [] with
  | error o=>rw [hz] at h;cases h
  | ok r =>
   rw [hz] at h
   have h2:r++[(0,[],0,(src.length:Int))]=T:=by injection h
   subst h2
   have hall:∀ x∈r,x.1≠(0:Int):=Zsl (Pt:=λx=>x.1≠(0:Int)) (λa k m v hk=>by have:=Zo9 hk;show k≠0;omega) _ _ _ _ qs hz
   refine ⟨qs, ?_,λi hi=>?_⟩
   ·unfold kd tk;simp
   ·have hi':i<r.length:=by simp at hi;omega
    have e:(r++[((0:Int),([]:List UInt8),(0:Int),(src.length:Int))]).getD i (0,[],0,0)=r[i]:=by
     simp [List.getD,List.getElem?_append_left hi',hi']
    unfold kd tk
    rw [e]
    exact hall _ (List.getElem_mem hi')
theorem Zcu (b:UInt8):isDg b=true↔48<=b.toNat/\b.toNat<=57:=by simp [isDg,UInt8.le_iff_toNat_le]
theorem Zg2 (b:UInt8):isLt b=true↔97<=b.toNat/\b.toNat<=122:=by simp [isLt,UInt8.le_iff_toNat_le]
theorem Zfx {b:UInt8} (h:¬ (48<=b.toNat/\b.toNat<=57)):isDg b=false:=by
 cases hd:isDg b with
 | false=>rfl
 | true=>exact absurd ((Zcu b).1 hd) h
theorem Zs9 {b:UInt8} (h:¬ (97<=b.toNat/\b.toNat<=122)):isLt b=false:=by
 cases hd:isLt b with
 | false=>rfl
 | true=>exact absurd ((Zg2 b).1 hd) h
theorem Zot (l:List UInt8) (b:UInt8) (n:Nat):valN (l++[b]) n=10*valN l n+(b.toNat-48):=by
 induction l generalizing n with
 | nil=>rfl
 | cons c l ih=>exact ih _
theorem Zh2 {l:List UInt8} {k:Nat} {b:UInt8} (h:l[k]? = some b):Zgu (l.take (k+1))=10*Zgu (l.take k)+(b.toNat-48):=by
 have hk:k<l.length:=(List.getElem?_eq_some_iff.1 h).1
 rw [List.take_add_one,h]
 exact Zot _ _ _
def DG (l:List UInt8) (k:Nat):Prop:=∀ j,j<k->∃ b,l[j]? = some b/\isDg b=true
theorem DG.zero (l:List UInt8):DG l 0:=λj h=>absurd h (by omega)
theorem DG.succ {l:List UInt8} {k:Nat} {b:UInt8} (h:DG l k) (hb:l[k]? = some b) (hd:48<=b.toNat/\b.toNat<=57):DG l (k+1):=by
 intro j hj
 by_cases e:j=k
 ·subst e;exact ⟨b,hb,(Zcu b).2 hd⟩
 ·exact h j (by omega)
theorem DG.le {l:List UInt8} {k:Nat} (h:DG l k):k<=l.length:=by
 rcases Nat.lt_or_ge l.length k with h'|h'
 ·obtain ⟨b,hb,_⟩:=h l.length h'
  simp at hb
 ·exact h'
theorem DG.val {l:List UInt8} {k:Nat} (h:DG l k):Zgu (l.take k)<10 ^ k:=by
 induction k with
 | zero=>simp [Zgu,valN]
 | succ k ih =>
  obtain ⟨b,hb,hd⟩:=h k (by omega)
  have h1:=ih (λj hj=>h j (by omega))
  have h2:=(Zcu b).1 hd
  rw [Zh2 hb,Nat.pow_succ]
  omega
theorem DG.span {l:List UInt8} {k:Nat} (h:DG l k):k<=Zav isDg l:=by
 rcases Nat.lt_or_ge (Zav isDg l) k with h'|h'
 ·obtain ⟨b,hb,hd⟩:=h _ h'
  rw [Zo6 hb] at hd;cases hd
 ·exact h'
theorem DG.span_end {l:List UInt8} {k:Nat} (h:DG l k) (he:l[k]? = none):Zav isDg l=k:=Zes h (λb hb=>by rw [he] at hb;cases hb)
theorem DG.span_not {l:List UInt8} {k:Nat} {b:UInt8} (h:DG l k) (hb:l[k]? = some b) (hd:¬ (48<=b.toNat/\b.toNat<=57)):Zav isDg l=k:=Zes h (λc hc=>by rw [hb] at hc;injection hc with hc;subst hc;exact Zfx hd)
theorem Zg1 {l:List UInt8} (h:4<Zav isDg l):numTok l=none:=by unfold numTok;simp [h]
theorem Zfm {l:List UInt8} {d:Nat} (hd:Zav isDg l=d) (h:¬ 4<d) (h46:l[d]? ≠ some 46):numTok l=some (d,Zgu (l.take d)*256):=by subst hd;unfold numTok;simp [h,h46]
theorem Zdq {l:List UInt8} {d p:Nat} (hd:Zav isDg l=d) (h46:l[d]? = some 46) (hp:Zav isDg (l.drop (d+1))=p) (h2:p<1∨4<p):numTok l=none:=by
 subst hd;subst hp;unfold numTok
 simp only [h46,h2,if_true,ite_self]
theorem Zfn {l:List UInt8} {d p:Nat} (hd:Zav isDg l=d) (h:¬ 4<d) (h46:l[d]? = some 46) (hp:Zav isDg (l.drop (d+1))=p) (h2:¬ (p<1∨4<p)):numTok l=some (d+1+p,Zgu (l.take d)*256+Zgu ((l.drop (d+1)).take p)*256 / 10 ^ p):=by
 subst hd;subst hp;unfold numTok
 dsimp only
 rw [if_neg h,if_pos h46,if_neg h2]
abbrev TK:=Int×List UInt8×Int
def Znh (x:Zam):TK:=(x.1,x.2.1,x.2.2.1)
inductive LX:List UInt8->List TK->Prop
 | nil:LX [] []
 | sp {b:UInt8} {l:List UInt8} {ts:List TK} (hb:Zgb b=true) (h:LX l ts):LX (b::l) ts
 | tok {b:UInt8} {l:List UInt8} {k:Int} {m v:Nat} {ts:List TK} (hb:Zgb b=false) (hs:Zaq (b::l)=some (k,m,v)) (h:LX ((b::l).drop m) ts):LX (b::l) ((k,(b::l).take m,(v:Int))::ts)
theorem LX.tokz {src:List UInt8} {s:List UInt8} {ts:List TK} (h:LX s ts):∀ (a n:Nat) (l:List Zam),s=src.drop a->src.length<a+n->∃ r,tokz src n a l=.ok (l++r)/\r.map Znh=ts:=by
 induction h with
 | nil =>
  intro a n l hs hn
  have:src.length<=a:=by have:=congrArg List.length hs;simp at this;omega
  exact ⟨[],by rw [Zer this];simp,rfl⟩
 | @sp b s ts hb h ih =>
  intro a n l hs hn
  have hal:a<src.length:=by have:=congrArg List.length hs;simp at this;omega
  obtain ⟨n,rfl⟩:∃ m,n=m+1:=⟨n-1,qo⟩
  have hx:src[a]? = some b:=by have:=congrArg (λz=>z[0]?) hs;simpa using this.symm
  rw [Zea hx hb]
  exact ih (a+1) n l (by have:=congrArg List.tail hs;simpa using this) qo
 | @tok b s k m v ts hb hk h ih =>
  intro a n l hs hn
  have hal:a<src.length:=by have:=congrArg List.length hs;simp at this;omega
  obtain ⟨n,rfl⟩:∃ m,n=m+1:=⟨n-1,qo⟩
  have hx:src[a]? = some b:=by have:=congrArg (λz=>z[0]?) hs;simpa using this.symm
  have hj:=Zc7 hk
  rw [Zgw hx hb (by rw [<- hs];exact hk)]
  obtain ⟨r,h1,h2⟩:=ih (a+m) n (l++[(k,(src.drop a).take m,(v:Int),(a:Int))]) (by rw [hs,List.drop_drop]) qo
  exact ⟨(k,(src.drop a).take m,(v:Int),(a:Int))::r,by rw [h1];simp,by simp [Znh,h2,hs]⟩
theorem LX.toksF {src:List UInt8} {ts:List TK} (h:LX src ts) (hl:src.length<=2000):∃ r:List Zam,toksF src=.ok (r++[(0,[],0,(src.length:Int))])/\r.map Znh=ts:=by
 obtain ⟨r,h1,h2⟩:=h.tokz (src:=src) 0 (src.length+1) [] rfl qo
 refine ⟨r, ?_,h2⟩
 unfold Go.Proofs.YticdknjoapdmeaaGreatDoor.toksF
 rw [if_neg qo,h1]
 rfl
def Zuu (b:UInt8):Bool:=isLt b||isDg b
def Zu4 (l:List UInt8):Prop:=∀ b,l.head? = some b->Zuu b=false/\b≠46
theorem Zu4.nil:Zu4 []:=λb h=>by cases h
theorem Zu4.cons {b:UInt8} {l:List UInt8} (h:(Zuu b=false/\b≠46):=by decide):Zu4 (b::l):=λc hc=>by simp at hc;subst hc;exact h
theorem LX.sym {b:UInt8} {l:List UInt8} {ts:List TK} (h:LX l ts) (hb:Zgb b=false/\isDg b=false/\isLt b=false/\isSy b=true:=by decide):LX (b::l) ((3,[b],0)::ts):=by
 obtain ⟨h1,h2,h3,h4⟩:=hb
 exact .tok (m:=1) (v:=0) h1 (by unfold Zaq;simp [h2,h3,h4]) h
theorem LX.name {w l:List UInt8} {ts:List TK} (h:LX l ts) (hs:Zu4 l) (hw:0<w.length/\w.length<=8/\(∀ b∈w,Zuu b=true)/\(∀ b,w.head? = some b->isLt b=true)):LX (w++l) ((2,w,0)::ts):=by
 obtain ⟨h1,h2,h3,h4⟩:=hw
 match w,h1 with
 | b::w,_ =>
  have hb:=h4 b rfl
  have hn:=(Zg2 b).1 hb
  have hd:isDg b=false:=Zfx qo
  have hsp:Zgb b=false:=by
   unfold Zgb
   have e1:¬ b=32:=by rintro rfl;simp at hn
   have e2:¬ b=10:=by rintro rfl;simp at hn
   simp [e1,e2]
  have hspan:Zav (λc=>isLt c||isDg c) (b::w++l)=(b::w).length:=by
   refine Zes (λj hj=>?_) (λc hc=>?_)
   ·exact ⟨(b::w)[j],by rw [List.getElem?_append_left hj,List.getElem?_eq_getElem hj],h3 _ (List.getElem_mem hj)⟩
   ·rw [List.getElem?_append_right (Nat.le_refl _),Nat.sub_self] at hc
    exact (hs c (by rw [List.head?_eq_getElem?];exact hc)).1
  have hscan:Zaq (b::(w++l))=some (2,(b::w).length,0):=by
   unfold Zaq
   have e:Zav (λc=>isLt c||isDg c) (b::(w++l))=(b::w).length:=hspan
   simp only [hd,hb,if_true,e,if_false,Bool.false_eq_true]
   rw [if_neg qo]
  have:=LX.tok hsp hscan (ts:=ts) (by show LX ((b::w++l).drop (b::w).length) ts;rw [List.drop_left];exact h)
  have e2:(b::(w++l)).take (b::w).length=b::w:=List.take_left (l₁:=b::w) (l₂:=l)
  rw [e2] at this
  exact this
def Zrz (w:List UInt8) (v:Nat):Prop:=∀ l,Zu4 l->numTok (w++l)=some (w.length,v)
theorem LX.num {w l:List UInt8} {v:Nat} {ts:List TK} (h:LX l ts) (hs:Zu4 l) (hw:Zrz w v) (hd:∃ b r,w=b::r/\isDg b=true):LX (w++l) ((1,w,(v:Int))::ts):=by
 obtain ⟨b,r,rfl,hb⟩:=hd
 have hn:=(Zcu b).1 hb
 have hsp:Zgb b=false:=by
  unfold Zgb
  have e1:¬ b=32:=by rintro rfl;simp at hn
  have e2:¬ b=10:=by rintro rfl;simp at hn
  simp [e1,e2]
 have hscan:Zaq (b::(r++l))=some (1,(b::r).length,v):=by
  unfold Zaq
  have e:numTok (b::(r++l))=some ((b::r).length,v):=hw l hs
  simp only [hb,if_true,e]
  rfl
 have:=LX.tok hsp hscan (ts:=ts) (by show LX ((b::r++l).drop (b::r).length) ts;rw [List.drop_left];exact h)
 have e2:(b::(r++l)).take (b::r).length=b::r:=List.take_left (l₁:=b::r) (l₂:=l)
 rw [e2] at this
 exact this
def Seg (T:List Zam) (a:Nat) (l:List TK):Prop:=∀ (j:Nat) (h:j<l.length),Znh (tk T (a+j))=l[j]
theorem Seg.app {T:List Zam} {a:Nat} {x y:List TK} (h:Seg T a (x++y)):Seg T a x/\Seg T (a+x.length) y:=by
 refine ⟨λj hj=>?_,λj hj=>?_⟩
 ·rw [h j (by simp;omega),List.getElem_append_left hj]
 ·rw [Nat.add_assoc,h (x.length+j) (by simp;omega),List.getElem_append_right qo];simp
theorem Seg.cons {T:List Zam} {a:Nat} {x:TK} {y:List TK} (h:Seg T a (x::y)):Znh (tk T a)=x/\Seg T (a+1) y:=⟨h 0 qs,(Seg.app (x:=[x]) (y:=y) h).2⟩
theorem Seg.of {r:List Zam} {e:Zam} {ts:List TK} (h:r.map Znh=ts):Seg (r++[e]) 0 ts:=by
 subst h
 intro j hj
 have hj':j<r.length:=by simpa using hj
 unfold tk
 simp [List.getD,List.getElem?_append_left hj',hj']
theorem Za9 {T:List Zam} {a:Nat} {s:List UInt8} {v:Int} (h:Znh (tk T a)=(3,s,v)):pk T a=s:=by
 unfold Znh at h
 simp only [Prod.mk.injEq] at h
 unfold pk kd tx
 rw [if_pos h.1,h.2.1]
theorem Zwt {T:List Zam} {a:Nat} {k:Int} {s:List UInt8} {v:Int} (h:Znh (tk T a)=(k,s,v)) (hk:k≠3):pk T a=[]:=by
 unfold Znh at h
 simp only [Prod.mk.injEq] at h
 unfold pk kd
 rw [if_neg (by rw [h.1];exact hk)]
theorem Zps {T:List Zam} {a:Nat} {k:Int} {s:List UInt8} {v:Int} (h:Znh (tk T a)=(k,s,v)):kd T a=k/\tx T a=s/\nm T a=v:=by
 unfold Znh at h
 simp only [Prod.mk.injEq] at h
 exact h
def PE (T:List Zam) (m:PM) (d a:Nat) (ns:List Zac) (r:PR):Prop:=∃ n0,∀ n,n0<=n->prs T n m d a ns=r
theorem Zi2 {T:List Zam} {x:Zac} {a:Nat} {ns:List Zac} (h:ns.length<60):emit T x a ns=.ok ns.length a (ns++[x]):=by unfold emit;rw [if_neg qo]
section
variable {T:List Zam} {d a a1:Nat} {ns n1:List Zac} {v:Int} {r:PR}
theorem PE.num {s:List UInt8} {u:Int} (h:Znh (tk T a)=(1,s,u)) (hd:d<=64) (hl:ns.length<60):PE T .fac d a ns (.ok ns.length (a+1) (ns++[(1,[],u,[])])):=by
 refine ⟨1,λn hn=>?_⟩
 obtain ⟨n,rfl⟩:∃ m,n=m+1:=⟨n-1,qo⟩
 have h1:=Zwt h qd
 obtain ⟨h2,h3,h4⟩:=Zps h
 rw [prs,if_neg qo,if_neg (by rw [h1];simp),if_neg (by rw [h1];simp),if_pos h2,Zi2 hl,h4]
theorem PE.name {s:List UInt8} {u:Int} (h:Znh (tk T a)=(2,s,u)) (hd:d<=64) (hl:ns.length<60) (hp:pk T (a+1)≠[40]):PE T .fac d a ns (.ok ns.length (a+1) (ns++[(2,s,0,[])])):=by
 refine ⟨1,λn hn=>?_⟩
 obtain ⟨n,rfl⟩:∃ m,n=m+1:=⟨n-1,qo⟩
 have h1:=Zwt h qd
 obtain ⟨h2,h3,h4⟩:=Zps h
 rw [prs,if_neg qo,if_neg (by rw [h1];simp),if_neg (by rw [h1];simp),if_neg (by rw [h2];decide),if_pos h2,if_neg hp,Zi2 hl,h3]
theorem PE.call {s:List UInt8} {u:Int} (h:Znh (tk T a)=(2,s,u)) (hd:d<=64) (hp:pk T (a+1)=[40]) (k:PE T (.args s []) (d+1) (a+2) ns r):PE T .fac d a ns r:=by
 obtain ⟨n0,k⟩:=k
 refine ⟨n0+1,λn hn=>?_⟩
 obtain ⟨n,rfl⟩:∃ m,n=m+1:=⟨n-1,qo⟩
 have h1:=Zwt h qd
 obtain ⟨h2,h3,h4⟩:=Zps h
 rw [prs,if_neg qo,if_neg (by rw [h1];simp),if_neg (by rw [h1];simp),if_neg (by rw [h2];decide),if_pos h2,if_pos hp,h3,k n qo]
theorem PE.neg (h:pk T a=[45]) (hd:d<=64) (k:PE T .fac (d+1) (a+1) ns (.ok v a1 n1)) (hl:n1.length<60):PE T .fac d a ns (.ok n1.length a1 (n1++[(3,[],0,[v])])):=by
 obtain ⟨n0,k⟩:=k
 refine ⟨n0+1,λn hn=>?_⟩
 obtain ⟨n,rfl⟩:∃ m,n=m+1:=⟨n-1,qo⟩
 rw [prs,if_neg qo,if_pos h,k n qo]
 exact Zi2 hl
theorem PE.par (h:pk T a=[40]) (hd:d<=64) (k:PE T (.bin true) (d+1) (a+1) ns (.ok v a1 n1)) (hc:pk T a1=[41]):PE T .fac d a ns (.ok v (a1+1) n1):=by
 obtain ⟨n0,k⟩:=k
 refine ⟨n0+1,λn hn=>?_⟩
 obtain ⟨n,rfl⟩:∃ m,n=m+1:=⟨n-1,qo⟩
 rw [prs,if_neg qo,if_neg (by rw [h];decide),if_pos h,k n qo]
 exact if_pos hc
theorem PE.args0 {s:List UInt8} (h:pk T a=[41]) (hl:ns.length<60):PE T (.args s []) d a ns (.ok ns.length (a+1) (ns++[(8,s,0,[])])):=by
 refine ⟨1,λn hn=>?_⟩
 obtain ⟨n,rfl⟩:∃ m,n=m+1:=⟨n-1,qo⟩
 rw [prs,if_pos ⟨rfl,h⟩,Zi2 hl]
theorem PE.more {s:List UInt8} {l:List Int} (h0:¬ (l=[]/\pk T a=[41])) (h3:l.length≠3) (k:PE T (.bin true) d a ns (.ok v a1 n1)) (hc:pk T a1=[44]) (k2:PE T (.args s (l++[v])) d (a1+1) n1 r):PE T (.args s l) d a ns r:=by
 obtain ⟨n0,k⟩:=k
 obtain ⟨m0,k2⟩:=k2
 refine ⟨n0+m0+1,λn hn=>?_⟩
 obtain ⟨n,rfl⟩:∃ m,n=m+1:=⟨n-1,qo⟩
 rw [prs,if_neg h0,if_neg h3,k n qo]
 show (if pk T a1=[44] then _ else _)=_
 rw [if_pos hc,k2 n qo]
theorem PE.last {s:List UInt8} {l:List Int} (h0:¬ (l=[]/\pk T a=[41])) (h3:l.length≠3) (k:PE T (.bin true) d a ns (.ok v a1 n1)) (hc:pk T a1=[41]) (hl:n1.length<60):PE T (.args s l) d a ns (.ok n1.length (a1+1) (n1++[(8,s,0,l++[v])])):=by
 obtain ⟨n0,k⟩:=k
 refine ⟨n0+1,λn hn=>?_⟩
 obtain ⟨n,rfl⟩:∃ m,n=m+1:=⟨n-1,qo⟩
 rw [prs,if_neg h0,if_neg h3,k n qo]
 show (if pk T a1=[44] then _ else _)=_
 rw [if_neg (by rw [hc];decide),if_pos hc,Zi2 hl]
theorem PE.bin {add:Bool} (k:PE T (opd add) d a ns (.ok v a1 n1)) (k2:PE T (.loop add v) d a1 n1 r):PE T (.bin add) d a ns r:=by
 obtain ⟨n0,k⟩:=k
 obtain ⟨m0,k2⟩:=k2
 refine ⟨n0+m0+1,λn hn=>?_⟩
 obtain ⟨n,rfl⟩:∃ m,n=m+1:=⟨n-1,qo⟩
 rw [prs,k n qo]
 exact k2 n qo
theorem PE.stop {add:Bool} (h:opS add (pk T a)=0):PE T (.loop add v) d a ns (.ok v a ns):=by
 refine ⟨1,λn hn=>?_⟩
 obtain ⟨n,rfl⟩:∃ m,n=m+1:=⟨n-1,qo⟩
 rw [prs,if_pos h]
theorem PE.go {add:Bool} {b:Int} (h:opS add (pk T a)≠0) (k:PE T (opd add) d (a+1) ns (.ok b a1 n1)) (hl:n1.length<60) (k2:PE T (.loop add n1.length) d a1 (n1++[(opS add (pk T a),[],0,[v,b])]) r):PE T (.loop add v) d a ns r:=by
 obtain ⟨n0,k⟩:=k
 obtain ⟨m0,k2⟩:=k2
 refine ⟨n0+m0+1,λn hn=>?_⟩
 obtain ⟨n,rfl⟩:∃ m,n=m+1:=⟨n-1,qo⟩
 rw [prs,if_neg h,k n qo]
 show (match emit T _ a1 n1 with | .ok u a2 n2=>prs T n (.loop add u) d a2 n2 | .bad o=>.bad o | .out=>.out)=r
 rw [Zi2 hl]
 exact k2 n qo
end
theorem prs_mono {T:List Zam}:∀ (n:Nat) (m:PM) (d a:Nat) (ns:List Zac),prs T n m d a ns ≠ .out->prs T (n+1) m d a ns=prs T n m d a ns:=by
 intro n
 induction n with
 | zero=>intro m d a ns h;exact absurd rfl h
 | succ n ih =>
  intro m d a ns h
  match m with
  | .bin add =>
   rw [prs] at h
   show (match prs T (n+1) (opd add) d a ns with | .ok v a1 n1=>prs T (n+1) (.loop add v) d a1 n1 | .bad o=>.bad o | .out=>.out)=(match prs T n (opd add) d a ns with | .ok v a1 n1=>prs T n (.loop add v) d a1 n1 | .bad o=>.bad o | .out=>.out)
   cases hr:prs T n (opd add) d a ns with
   | out=>rw [hr] at h;exact absurd rfl h
   | bad o=>rw [ih _ _ _ _ (by rw [hr];simp),hr]
   | ok v a1 n1 =>
    rw [hr] at h
    rw [ih _ _ _ _ (by rw [hr];simp),hr]
    exact ih _ _ _ _ h
  | .loop add v =>
   rw [prs] at h
   show (if opS add (pk T a)=0 then _ else _)=(if opS add (pk T a)=0 then _ else _)
   by_cases h0:opS add (pk T a)=0
   ·rw [if_pos h0,if_pos h0]
   ·rw [if_neg h0] at h
    rw [if_neg h0,if_neg h0]
    cases hr:prs T n (opd add) d (a+1) ns with
    | out=>rw [hr] at h;exact absurd rfl h
    | bad o=>rw [ih _ _ _ _ (by rw [hr];simp),hr]
    | ok b a1 n1 =>
     rw [hr] at h
     rw [ih _ _ _ _ (by rw [hr];simp),hr]
     show (match emit T _ a1 n1 with | .ok u a2 n2=>prs T (n+1) (.loop add u) d a2 n2 | .bad o=>.bad o | .out=>.out)=(match emit T _ a1 n1 with | .ok u a2 n2=>prs T n (.loop add u) d a2 n2 | .bad o=>.bad o | .out=>.out)
     have h':(match emit T (opS add (pk T a),[],0,[v,b]) a1 n1 with | .ok u a2 n2=>prs T n (.loop add u) d a2 n2 | .bad o=>.bad o | .out=>.out) ≠ .out:=h
     cases he:emit T (opS add (pk T a),[],0,[v,b]) a1 n1 with
     | out=>rfl
     | bad o=>rfl
     | ok u a2 n2=>rw [he] at h';exact ih _ _ _ _ h'
  | .fac =>
   rw [prs] at h
   show (if 64<d then _ else _)=(if 64<d then _ else _)
   by_cases c1:64<d
   ·rw [if_pos c1,if_pos c1]
   rw [if_neg c1] at h
   rw [if_neg c1,if_neg c1]
   by_cases c2:pk T a=[45]
   ·rw [if_pos c2] at h
    rw [if_pos c2,if_pos c2]
    cases hr:prs T n .fac (d+1) (a+1) ns with
    | out=>rw [hr] at h;exact absurd rfl h
    | bad o=>rw [ih _ _ _ _ (by rw [hr];simp),hr]
    | ok b a1 n1=>rw [ih _ _ _ _ (by rw [hr];simp),hr]
   rw [if_neg c2] at h
   rw [if_neg c2,if_neg c2]
   by_cases c3:pk T a=[40]
   ·rw [if_pos c3] at h
    rw [if_pos c3,if_pos c3]
    cases hr:prs T n (.bin true) (d+1) (a+1) ns with
    | out=>rw [hr] at h;exact absurd rfl h
    | bad o=>rw [ih _ _ _ _ (by rw [hr];simp),hr]
    | ok b a1 n1=>rw [ih _ _ _ _ (by rw [hr];simp),hr]
   rw [if_neg c3] at h
   rw [if_neg c3,if_neg c3]
   by_cases c4:kd T a=1
   ·rw [if_pos c4,if_pos c4]
   rw [if_neg c4] at h
   rw [if_neg c4,if_neg c4]
   by_cases c5:kd T a=2
   ·rw [if_pos c5] at h
    rw [if_pos c5,if_pos c5]
    by_cases c6:pk T (a+1)=[40]
    ·rw [if_pos c6] at h
     rw [if_pos c6,if_pos c6]
     exact ih _ _ _ _ h
    ·rw [if_neg c6,if_neg c6]
   ·rw [if_neg c5,if_neg c5]
  | .args name l =>
   rw [prs] at h
   show (if l=[]/\pk T a=[41] then _ else _)=(if l=[]/\pk T a=[41] then _ else _)
   by_cases c1:l=[]/\pk T a=[41]
   ·rw [if_pos c1,if_pos c1]
   rw [if_neg c1] at h
   rw [if_neg c1,if_neg c1]
   by_cases c2:l.length=3
   ·rw [if_pos c2,if_pos c2]
   rw [if_neg c2] at h
   rw [if_neg c2,if_neg c2]
   cases hr:prs T n (.bin true) d a ns with
   | out=>rw [hr] at h;exact absurd rfl h
   | bad o=>rw [ih _ _ _ _ (by rw [hr];simp),hr]
   | ok v a1 n1 =>
    rw [hr] at h
    rw [ih _ _ _ _ (by rw [hr];simp),hr]
    show (if pk T a1=[44] then _ else _)=(if pk T a1=[44] then _ else _)
    have h':(if pk T a1=[44] then prs T n (.args name (l++[v])) d (a1+1) n1 else if pk T a1=[41] then emit T (8,name,0,l++[v]) (a1+1) n1 else .bad (of_ T a1)) ≠ .out:=h
    by_cases c3:pk T a1=[44]
    ·rw [if_pos c3] at h'
     rw [if_pos c3,if_pos c3]
     exact ih _ _ _ _ h'
    ·rw [if_neg c3,if_neg c3]
theorem prs_le {T:List Zam} {m:PM} {d a:Nat} {ns:List Zac} {n:Nat} (h:prs T n m d a ns ≠ .out):∀ k,prs T (n+k) m d a ns=prs T n m d a ns
 | 0=>rfl
 | k+1=>by
  have ih:=prs_le h k
  rw [<- Nat.add_assoc,prs_mono _ _ _ _ _ (by rw [ih];exact h),ih]
theorem PE.at_ {T:List Zam} {m:PM} {d a:Nat} {ns:List Zac} {r:PR} {N:Nat} (k:PE T m d a ns r) (h:prs T N m d a ns ≠ .out):prs T N m d a ns=r:=by
 obtain ⟨n0,k⟩:=k
 rw [<- prs_le h n0]
 exact k _ qo
open Go.RowKit Go.Lib
def NoB (b:UInt8) (l:List UInt8):Prop:=∀ x∈l,x≠b
theorem NoB.app {b:UInt8} {l m:List UInt8} (h:NoB b l) (g:NoB b m):NoB b (l++m):=λx hx=>(List.mem_append.1 hx).elim (h x) (g x)
theorem NoB.nil (b:UInt8):NoB b []:=λx hx=>by cases hx
def OffN (b:UInt8):Prop:=b≠45/\b≠44/\¬ (48<=b.toNat/\b.toNat<=57)
theorem NoB.fmtI {b:UInt8} (hb:b≠45/\¬ (48<=b.toNat/\b.toNat<=57)) (n:Int):NoB b (fmtI n):=by
 intro x hx e
 subst e
 by_cases hn:Zca n
 ·rw [Zi0 hn] at hx
  rcases itoa_mem hx with h|h
  ·exact hb.1 h
  ·exact hb.2 h
 ·rw [Zjx hn] at hx;cases hx
theorem NoB.join {b s:UInt8} (hs:s≠b) {ls:List (List UInt8)} (h:∀ l∈ls,NoB b l):NoB b (join ls [s]):=by
 cases ls with
 | nil=>exact NoB.nil b
 | cons a t =>
  rw [join_cons]
  refine (h a qs).app ?_
  have:∀ r:List (List UInt8),(∀ l∈r,NoB b l)->NoB b (joinTail [s] r):=by
   intro r
   induction r with
   | nil=>intro _ x hx;cases hx
   | cons c q ih =>
    intro hr
    have e:joinTail [s] (c::q)=[s]++(c++joinTail [s] q):=by simp [joinTail]
    rw [e]
    exact NoB.app (λx hx=>by simp at hx;subst hx;exact hs) ((hr c qs).app (ih (λl hl=>hr l (by simp [hl]))))
  exact this t (λl hl=>h l (by simp [hl]))
theorem NoB.fmtL {b:UInt8} (hb:OffN b) (l:List Int):NoB b (fmtL l):=NoB.join hb.2.1.symm (λx hx=>by
 obtain ⟨n,_,rfl⟩:=List.mem_map.1 hx
 exact NoB.fmtI ⟨hb.1,hb.2.2⟩ n)
theorem Zj8 {b:UInt8}:∀ (r:List (List UInt8)) (u:List UInt8),NoB b u->(∀ p∈r,NoB b p)->splitB b (u++joinTail [b] r)=u::r
 | [],u,hu,_=>by rw [show joinTail [b] []=[] from rfl,List.append_nil];exact Zft hu
 | x::r,u,hu,hr=>by
  have e:joinTail [b] (x::r)=b::(x++joinTail [b] r):=by simp [joinTail]
  rw [e,Zgy _ hu,Zj8 r x (hr x qs) (λp hp=>hr p (by simp [hp]))]
theorem Zcx {b:UInt8} {ls:List (List UInt8)} (hne:ls≠[]) (h:∀ l∈ls,NoB b l):splitB b (join ls [b])=ls:=by
 cases ls with
 | nil=>exact absurd rfl hne
 | cons a t=>rw [join_cons];exact Zj8 t a (h a qs) (λp hp=>h p (by simp [hp]))
theorem Ziy (b:UInt8):∀ l:List UInt8,join (splitB b l) [b]=l/\(∀ p∈splitB b l,NoB b p)/\splitB b l≠[]
 | []=>⟨rfl,(λp hp=>by simp [splitB] at hp;subst hp;exact NoB.nil b),by simp [splitB]⟩
 | x::l=>by
  obtain ⟨h1,h2,h3⟩:=Ziy b l
  unfold splitB
  by_cases hx:x=b
  ·rw [if_pos hx]
   subst hx
   refine ⟨?_,λp hp=>?_,qs⟩
   ·cases hs:splitB x l with
    | nil=>exact absurd hs h3
    | cons a t=>rw [hs] at h1;rw [join_cons] at h1 ⊢;simp [joinTail] at h1 ⊢;rw [<- h1]
   ·rcases List.mem_cons.1 hp with rfl|hp
    ·exact NoB.nil _
    ·exact h2 p hp
  ·rw [if_neg hx]
   cases hs:splitB b l with
   | nil=>exact absurd hs h3
   | cons a t =>
    rw [hs] at h1 h2
    refine ⟨?_,λp hp=>?_,qs⟩
    ·rw [join_cons] at h1 ⊢;simp [<- h1]
    ·rcases List.mem_cons.1 hp with rfl|hp
     ·intro y hy
      rcases List.mem_cons.1 hy with rfl|hy
      ·exact hx
      ·exact h2 a qs y hy
     ·exact h2 p (by simp [hp])
theorem Zpz {c:UInt8} {u:List UInt8} (h:NoB c u):indexByte u c = -1:=by
 rcases (show indexByte u c = -1∨0<=indexByte u c by have:=indexByte_ge u c;omega) with h1|h1
 ·exact h1
 ·obtain ⟨o,ho⟩:∃ o:Nat,indexByte u c=o:=⟨(indexByte u c).toNat,qo⟩
  have:=(indexByte_some ho).1
  exact absurd rfl (h c (List.mem_of_getElem? this))
theorem Zp0 {c:UInt8} {u v:List UInt8} (h:NoB c u):indexByte (u++c::v) c=u.length:=by
 have hat:(u++c::v)[u.length]? = some c:=qs
 rcases (show indexByte (u++c::v) c = -1∨0<=indexByte (u++c::v) c by have:=indexByte_ge (u++c::v) c;omega) with h1|h1
 ·exact absurd hat (indexByte_none h1 _)
 ·obtain ⟨o,ho⟩:∃ o:Nat,indexByte (u++c::v) c=o:=⟨(indexByte (u++c::v) c).toNat,qo⟩
  obtain ⟨h2,h3⟩:=indexByte_some ho
  rcases Nat.lt_trichotomy o u.length with h4|h4|h4
  ·rw [List.getElem?_append_left h4] at h2
   exact absurd rfl (h c (List.mem_of_getElem? h2))
  ·rw [ho,h4]
  ·exact absurd hat (h3 _ h4)
theorem cut_no {c:UInt8} {u:List UInt8} (h:NoB c u):cut u [c]=(u,[],false):=by
 unfold cut
 rw [index_one,Zpz h]
 rfl
theorem Zxo {c:UInt8} {u v:List UInt8} (h:NoB c u):cut (u++c::v) [c]=(u,v,true):=by
 unfold cut
 rw [index_one,Zp0 h,if_pos qo]
 simp
theorem cut_split (c:UInt8) (l:List UInt8):(NoB c l/\splitB c l=[l]/\cut l [c]=(l,[],false))∨(∃ u v,NoB c u/\l=u++c::v/\splitB c l=u::splitB c v/\cut l [c]=(u,v,true)):=by
 by_cases h:∀ x∈l,x≠c
 ·exact .inl ⟨h,Zft h,cut_no h⟩
 ·right
  have hm:c∈l:=by
   simp only [Classical.not_forall,Classical.not_not] at h
   obtain ⟨x,hx,rfl⟩:=h
   exact hx
  obtain ⟨u,v,hl,hu⟩:∃ u v,l=u++c::v/\NoB c u:=by
   clear h
   induction l with
   | nil=>cases hm
   | cons x l ih =>
    by_cases hx:x=c
    ·subst hx;exact ⟨[],l,rfl,NoB.nil _⟩
    ·obtain ⟨u,v,rfl,hu⟩:=ih ((List.mem_cons.1 hm).resolve_left (λe=>hx e.symm))
     exact ⟨x::u,v,rfl,λy hy=>by rcases List.mem_cons.1 hy with rfl|hy;exact hx;exact hu y hy⟩
  subst hl
  exact ⟨u,v,hu,rfl,Zgy v hu,Zxo hu⟩
theorem Zjc:∀ {ls:List (List UInt8)} {l:List Int},parseTo ls=some l->l.map fmtI=ls
 | [],l,h=>by simp [parseTo] at h;subst h;rfl
 | x::t,l,h=>by
  simp only [parseTo] at h
  cases hx:parseI x with
  | none=>rw [hx] at h;cases h
  | some v =>
   rw [hx] at h
   simp only [Option.bind_some] at h
   cases ht:parseTo t with
   | none=>rw [ht] at h;cases h
   | some u =>
    rw [ht] at h
    obtain rfl:=Option.some.inj h
    rw [List.map_cons,Zjc ht,(Zkm hx).2.2]
theorem Zq7 {w:List UInt8} {l:List Int} (h:Zbm w=some l) (hl:l≠[]):fmtL l=w:=by
 unfold Zbm at h
 split at h
 ·obtain rfl:=Option.some.inj h;exact absurd rfl hl
 ·unfold fmtL
  rw [Zjc h]
  exact (Ziy 44 w).1
theorem Zxj {l:List Int} (hv:∀ x∈l,Zca x) (hl:l≠[]):fmtL l≠[45]:=by
 intro hc
 have h1:splitB 44 (fmtL l)=l.map fmtI:=Zcx (by simpa using hl) (λx hx=>by obtain ⟨n,_,rfl⟩:=List.mem_map.1 hx;exact NoB.fmtI qd n)
 rw [hc] at h1
 have h2:=Zhl hv
 rw [<- h1] at h2
 have h3:parseTo (splitB 44 [45])=none:=by
  rw [show splitB 44 [45]=[[45]] from rfl]
  unfold parseTo
  have:parseI [45]=none:=qd
  rw [this];rfl
 rw [h3] at h2
 cases h2
theorem Zhm {l:List Int} (hv:∀ x∈l,Zca x) (hl:l≠[]):Zbm (fmtL l)=some l:=by
 unfold Zbm
 rw [if_neg (Zxj hv hl)]
 unfold fmtL
 rw [Zcx (by simpa using hl) (λx hx=>by obtain ⟨n,_,rfl⟩:=List.mem_map.1 hx;exact NoB.fmtI qd n)]
 exact Zhl hv
abbrev Zi8:=Int×Int×Int
def Zg5 (l:List UInt8):Option Zi8 :=
 match Zbm l with
 | some [x,y,z]=>if validV x y z then some (x,y,z) else none
 | _=>none
def zV:Zi8:=(0,0,0)
def Zst (a b c d:Zi8):Zau
 | 0=>a.1|1=>a.2.1|2=>a.2.2|3=>b.1|4=>b.2.1|5=>b.2.2|6=>c.1|7=>c.2.1|8=>c.2.2|9=>d.1|10=>d.2.1|11=>d.2.2|_=>0
def zPt:Zau:=Zst zV zV zV zV
def parPt (l:List UInt8):Option Zau :=
 match splitB 32 l with
 | [a,b,c,d] =>
  match Zg5 a,Zg5 b,Zg5 c,Zg5 d with
  | some a,some b,some c,some d=>some (Zst a b c d)
  | _,_,_,_=>none
 | _=>none
theorem Zks {x:Int} (h:x=cl x):Zca x:=by have:=Ze4 x;unfold Zca;omega
theorem Zqt {x y z:Int} (h:validV x y z=true):∀ u∈[x,y,z],Zca u:=by
 unfold validV at h
 simp only [Bool.and_eq_true,decide_eq_true_eq] at h
 intro u hu
 simp only [List.mem_cons,List.not_mem_nil,or_false] at hu
 rcases hu with rfl|rfl|rfl
 ·exact Zks h.1
 ·exact Zks h.2.1
 ·exact Zks h.2.2
theorem Zib {v:Zi8} (h:validV v.1 v.2.1 v.2.2=true):Zg5 (Zop v.1 v.2.1 v.2.2)=some v:=by
 unfold Zg5 Zop
 rw [Zhm (Zqt h) qs]
 simp only [h,if_true]
def vOf (o:Option (List UInt8)):Zi8:=(o.bind Zg5).getD zV
def Zua (ws:List (List UInt8)):Zau:=Zst (vOf ws[0]?) (vOf ws[1]?) (vOf ws[2]?) (vOf ws[3]?)
theorem Zwu (a b c d:Zi8):Zh0 (Zst a b c d)=[Zop a.1 a.2.1 a.2.2,Zop b.1 b.2.1 b.2.2,Zop c.1 c.2.1 c.2.2,Zop d.1 d.2.1 d.2.2]:=rfl
theorem Zos {a b c d:Zi8} (ha:validV a.1 a.2.1 a.2.2=true) (hb:validV b.1 b.2.1 b.2.2=true) (hc:validV c.1 c.2.1 c.2.2=true) (hd:validV d.1 d.2.1 d.2.2=true):Zba (Zst a b c d)=true:=by
 unfold Zba
 simp only [Zst,ha,hb,hc,hd,Bool.and_self]
theorem Zq6 (p:Zau):∀ l∈Zh0 p,NoB 32 l:=by
 intro l hl
 simp only [Zh0,List.mem_cons,List.not_mem_nil,or_false] at hl
 rcases hl with rfl|rfl|rfl|rfl<;>exact NoB.fmtL (by unfold OffN;decide) _
theorem Zud (p:Zau):splitB 32 (Zia p)=Zh0 p:=Zcx (by simp [Zh0]) (Zq6 p)
theorem Zun {p:Zau} {a b c d:Zi8} (hp:p=Zst a b c d) (ha:validV a.1 a.2.1 a.2.2=true) (hb:validV b.1 b.2.1 b.2.2=true) (hc:validV c.1 c.2.1 c.2.2=true) (hd:validV d.1 d.2.1 d.2.2=true):parPt (Zia p)=some p:=by
 subst hp
 unfold parPt
 rw [Zud,Zwu]
 simp only [Zib ha,Zib hb,Zib hc,Zib hd]
abbrev ECam:=Int×Int×Int×Int×Bool×Int×Int
def parCam (l:List UInt8):Option ECam :=
 match Zbm l with
 | some [a,b,c,d,e,f,g]=>if Za4 a b c d f g&&decide (Zn6 a b c d (e==1) f g=l) then some (a,b,c,d,e==1,f,g) else none
 | _=>none
def parTex (l:List UInt8):Option (Int×List Int) :=
 match parseI (cut l [58]).1,Zbm (cut l [58]).2.1 with
 | some log,some tex=>if Zax log tex then some (log,tex) else none
 | _,_=>none
theorem tex_ne {log:Int} {l:List Int} (h:Zax log l=true):l≠[]/\Zca log/\∀ x∈l,Zca x:=by
 obtain ⟨h1,h2,h3,h4⟩:=Zge h
 have:=Za6 h1
 refine ⟨by intro e;subst e;simp at h2,by unfold Zca;omega,λx hx=>?_⟩
 unfold Zga at h4
 rw [List.all_eq_true] at h4
 have:=Za6 (h4 x hx)
 unfold Zca;omega
theorem Zuh:Zbm []=none:=by
 unfold Zbm
 rw [if_neg qd]
 rfl
theorem Zq9 {log:Int} {tex:List Int} (hv:Zax log tex=true):parTex (Zvw log tex)=some (log,tex):=by
 obtain ⟨n1,n2,n3⟩:=tex_ne hv
 have hc:cut (Zvw log tex) [58]=(fmtI log,fmtL tex,true):=by
  unfold Zvw
  rw [show fmtI log++[58]++fmtL tex=fmtI log++58::fmtL tex by simp]
  exact Zxo (NoB.fmtI qd _)
 unfold parTex
 rw [hc]
 simp only [Zei n2,Zhm n3 n1,hv,if_true]
def parSurf:List (List UInt8)->Zbt
 | [a,b,c,d,e,f,g,h,i,j]=>((parPt (join [c,d,e,f] [32])).getD zPt,(parPt (join [g,h,i,j] [32])).getD zPt,(parseI a).getD 0,(parseI b).getD 0)
 | _=>(zPt,zPt,0,0)
def zScene:EScene:=⟨0,0,0,0,false,0,0,0,[],[],[],0⟩
def setCam (s:EScene) (o:Option ECam):EScene:=match o with
 | some (a,b,c,d,e,f,g)=>{ s with a:=a,b:=b,c:=c,d:=d,e:=e,f:=f,g:=g }
 | none=>{ s with a:=0,b:=0,c:=0,d:=0,e:=false,f:=0,g:=0 }
def setTex (s:EScene) (o:Option (Int×List Int)):EScene:=match o with
 | some (log,tex)=>{ s with log:=log,tex:=tex }
 | none=>{ s with log:=0,tex:=[] }
def wCam:List UInt8:=[99,97,109,101,114,97]
def wTex:List UInt8:=[116,101,120,116,117,114,101]
def Zvz:List UInt8:=[115,105,100,101]
def Zv0:List UInt8:=[115,104,97,100,101,114]
def Zts:List UInt8:=[115,117,114,102,97,99,101]
def updI (s:EScene) (line:List UInt8):EScene :=
 let c:=cut line [32]
 if c.1=wCam then setCam s (parCam c.2.1)
 else if c.1=wTex then setTex s (parTex c.2.1)
 else if c.1=Zvz then { s with side:=(parseI c.2.1).getD 0 }
 else if c.1=Zv0 then { s with ps:=s.ps++[(parF c.2.1).1] }
 else if c.1=Zts then { s with ss:=s.ss++[parSurf (splitB 32 c.2.1)] }
 else s
def Sim (T T':List Zam):Prop:=∀ i,Znh (tk T i)=Znh (tk T' i)
theorem Sim.pk {T T':List Zam} (h:Sim T T') (i:Nat):pk T i=pk T' i/\kd T i=kd T' i/\tx T i=tx T' i/\nm T i=nm T' i:=by
 have:=h i
 unfold Znh at this
 simp only [Prod.mk.injEq] at this
 unfold Go.Proofs.YticdknjoapdmeaaGreatDoor.pk kd tx nm
 rw [this.1,this.2.1,this.2.2]
 simp
def PSim:PR->PR->Prop
 | .ok v a n,r=>r=.ok v a n
 | .bad _,r=>∃ o,r=.bad o
 | .out,r=>r=.out
theorem PSim.refl (r:PR):PSim r r:=by cases r<;>simp [PSim]
theorem PSim.emit {T T':List Zam} (x:Zac) (a:Nat) (ns:List Zac):PSim (emit T x a ns) (emit T' x a ns):=by
 unfold Go.Proofs.YticdknjoapdmeaaGreatDoor.emit
 split
 ·exact ⟨_,rfl⟩
 ·exact PSim.refl _
abbrev prB (r:PR) (f:Int->Nat->List Zac->PR):PR:=match r with
 | .ok v a n=>f v a n
 | .bad o=>.bad o
 | .out=>.out
theorem PSim.bind {r r':PR} {f g:Int->Nat->List Zac->PR} (h:PSim r r') (hf:∀ v a n,PSim (f v a n) (g v a n)):PSim (prB r f) (prB r' g):=by
 cases r with
 | ok v a n=>obtain rfl:=h;exact hf v a n
 | bad o=>obtain ⟨o',rfl⟩:=h;exact ⟨_,rfl⟩
 | out=>obtain rfl:=h;exact rfl
theorem Zew (b:UInt8) (l:List UInt8) (h:l.all (λx=>x != b)=true:=by decide):NoB b l:=by
 rw [List.all_eq_true] at h
 intro x hx e
 have:=h x hx
 subst e
 simp at this
theorem flatT_no (l:List UInt8):NoB 10 (flatT l):=by
 intro x hx e
 subst e
 unfold flatT at hx
 obtain ⟨b,hb,hbe⟩:=List.mem_map.1 hx
 split at hbe
 ·exact absurd hbe qd
 ·contradiction
theorem camT_no {b:UInt8} (hb:OffN b) (x1 x2 x3 x4:Int) (e:Bool) (x5 x6:Int):NoB b (Zn6 x1 x2 x3 x4 e x5 x6):=NoB.fmtL hb _
theorem line_no {s:EScene}:∀ l∈Zbk s,NoB 10 l:=by
 have o10:OffN 10:=by unfold OffN;decide
 intro l hl
 unfold Zbk Zn1 at hl
 simp only [List.mem_append,List.mem_cons,List.not_mem_nil,or_false,List.mem_map] at hl
 rcases hl with ((rfl|rfl|rfl)|⟨p,_,rfl⟩)|⟨x,_,rfl⟩
 ·exact (Zew 10 _).app (camT_no o10 _ _ _ _ _ _ _)
 ·unfold Zvw;exact (Zew 10 _).app (((NoB.fmtI ⟨o10.1,o10.2.2⟩ _).app (Zew 10 _)).app (NoB.fmtL o10 _))
 ·exact (Zew 10 _).app (NoB.fmtI ⟨o10.1,o10.2.2⟩ _)
 ·exact (Zew 10 _).app (flatT_no _)
 ·have hp:∀ p,NoB 10 (Zia p):=λp=>NoB.join qd (λq hq=>by
   simp only [Zh0,List.mem_cons,List.not_mem_nil,or_false] at hq
   rcases hq with rfl|rfl|rfl|rfl<;>exact NoB.fmtL o10 _)
  unfold Zh5
  exact ((((((Zew 10 _).app (NoB.fmtI ⟨o10.1,o10.2.2⟩ _)).app (Zew 10 _)).app (NoB.fmtI ⟨o10.1,o10.2.2⟩ _)).app (Zew 10 _)).app (hp _)).app (Zew 10 _) |>.app (hp _)
theorem Zk1 {u v:List UInt8} (hu:NoB 32 u):cut (u++[32]++v) [32]=(u,v,true):=by
 rw [show u++[32]++v=u++32::v by simp]
 exact Zxo hu
def linesT (l:List UInt8):List (List UInt8):=if (splitB 10 l).getLast? = some [] then (splitB 10 l).dropLast else splitB 10 l
def pI (t:List UInt8):EScene:=(linesT t).foldl updI zScene
theorem Zje {s:EScene} (h:Zbb s=true):linesT (Zb0 s)=Zbk s:=by
 have hne:Zbk s≠[]:=by unfold Zbk Zn1;simp
 have e:Zb0 s=join (Zbk s++[[]]) [10]:=by
  unfold Zb0
  rw [if_pos h]
  match hl:Zbk s,hne with
  | a::t,_=>rw [List.cons_append,join_cons,join_cons];simp [joinTail]
 have hs:splitB 10 (Zb0 s)=Zbk s++[[]]:=by
  rw [e]
  exact Zcx qs (λl hl=>by
   rcases List.mem_append.1 hl with hl|hl
   ·exact line_no l hl
   ·simp at hl;subst hl;exact NoB.nil _)
 unfold linesT
 rw [hs]
 simp
end
section
open Go.RowKit
section
variable {P:Program} {w w':World} {ops:Array Oper} {rest:List Oper} {o:Oper} {a:Act} {Q:Exit->Act->World->Prop}
theorem Zal (hg:o.guard=none) (t:TypeId) (x:Operand) (ho:o.op=.load t x) {p v:Value} (hx:a.eval x=p) (hr:(Instr.loadAt t p).run P w=.ok v w') (h:wpList P ops Q rest (a.put o.dst v) w'):wpList P ops Q (o::rest) a w:=by
 refine wpList_plain hg λK hK=>?_
 unfold Oper.wp execOp
 simp only [ho,Sem.run_bind,Sem.run_pure,Result.andThen_ok,hx,hr]
 exact hK _ _ h
theorem Zah (hg:o.guard=none) (t:TypeId) (ho:o.op=.alloc t) {v:Value} (hr:(Instr.alloc t true (.tuple #[])).run P w=.ok v w') (h:wpList P ops Q rest (a.put o.dst v) w'):wpList P ops Q (o::rest) a w:=by
 refine wpList_plain hg λK hK=>?_
 unfold Oper.wp execOp
 simp only [ho,Sem.run_bind,Sem.run_pure,Result.andThen_ok,hr]
 exact hK _ _ h
theorem Zae (hg:o.guard=none) (t:TypeId) (x y:Operand) (ho:o.op=.store t x y) {p v:Value} (hx:a.eval x=p) (hy:a.eval y=v) (hr:(Instr.storeAt t p v).run P w=.ok () w') (h:wpList P ops Q rest (a.put o.dst (.tuple #[])) w'):wpList P ops Q (o::rest) a w:=by
 refine wpList_plain hg λK hK=>?_
 unfold Oper.wp execOp
 simp only [ho,Sem.run_bind,Sem.run_pure,Result.andThen_ok,hx,hy,hr]
 exact hK _ _ h
end
section
variable {P:Program} {w:World} {T:TypeId} {d:TypeDesc} {n:Nat}
theorem Zak {b o:Nat} {cs:List Value} (hu:P.underlying T=some d) (hd:(match d with | .struct _ | .array _ _=>true|_=>false)=true) (hi:(P.info? T).map (·.size)=some cs.length) (h:∀ j v,cs[j]? = some v->w.cell? ⟨b,o+j,none⟩=some v) :
  (Instr.loadAt T (.pointer (some ⟨b,o,none⟩))).run P w=.ok (.agg ⟨cs⟩) w:=by
 have hl:(loadCells ⟨b,o,none⟩ cs.length).run P w=.ok cs.toArray w :=
  run_loadCells_list (P:=P) w ⟨b,o,none⟩ cs (λj v hv=>by
   have hadd:(⟨b,o,none⟩:Addr).add j=⟨b,o+j,none⟩:=by unfold Addr.add;split<;>simp_all
   rw [hadd];exact h j v hv)
 cases hq:P.info? T with
 | none=>simp [hq] at hi
 | some i =>
  have hs:i.size=cs.length:=by simpa [hq] using hi
  have hagg:(isAgg T).run P w=.ok true w:=by
   unfold isAgg
   rw [Sem.run_bind,run_underlying hu w]
   cases d<;>simp_all
  simp [Instr.loadAt,Instr.sureAddr,loadVar,Sem.run_bind,hagg,sizeOf,typeInfo,hq,hs,hl]
theorem big_box {b o:Nat} {cs:List Value} (zs:Array Value) (hu:P.underlying T=some d) (hd:(match d with | .struct _ | .array _ _=>true|_=>false)=true) (hi:(P.info? T).map (·.size)=some cs.length)
  (hz:∀ wx:World,(Instr.alloc T true (.tuple #[])).run P wx=.ok (.pointer (some ⟨wx.heap.size,0,none⟩)) (wx.alloc (.cells zs T))) (hzs:zs.size=cs.length) (h1:cs.all (·.oneCell')=true) (h:∀ j v,cs[j]? = some v->w.cell? ⟨b,o+j,none⟩=some v) :
  ∃ (w1 w2:World) (V:Value),V=.agg ⟨cs⟩/\(Instr.loadAt T (.pointer (some ⟨b,o,none⟩))).run P w=.ok V w/\(Instr.alloc T true (.tuple #[])).run P w=.ok (.pointer (some ⟨w.heap.size,0,none⟩)) w1 /\
   (Instr.storeAt T (.pointer (some ⟨w.heap.size,0,none⟩)) V).run P w1=.ok () w2/\(Instr.loadAt T (.pointer (some ⟨w.heap.size,0,none⟩))).run P w2=.ok V w2/\w2.heap.size=w.heap.size+1/\Bw w w2/\Own w2 w.heap.size T cs:=by
 have ho1:Own (w.alloc (.cells zs T)) w.heap.size T zs.toList:=Own.new w T zs
 have hst:(storeVar T ⟨w.heap.size,0,none⟩ (.agg ⟨cs⟩)).run P (w.alloc (.cells zs T))=.ok () ((w.alloc (.cells zs T)).setRow w.heap.size ⟨cs⟩) :=
  run_storeVar_row (P:=P) _ w.heap.size T T zs ⟨cs⟩ ho1 (by simpa using hi) (by simpa using hzs) (by simpa using h1)
 have ho2:Own ((w.alloc (.cells zs T)).setRow w.heap.size ⟨cs⟩) w.heap.size T cs:=by
  have:=ho1
  unfold Own at this ⊢
  exact setRow_heap _ _ _ _ _ _ this
 refine ⟨_,(w.alloc (.cells zs T)).setRow w.heap.size ⟨cs⟩,_,rfl,Zak hu hd hi h,hz w, ?_, ?_, ?_, ?_,ho2⟩
 ·simp [Instr.storeAt,Instr.sureAddr,hst]
 ·exact Zak (o:=0) hu hd hi (λj v hv=>by rw [Nat.zero_add,ho2.cell];exact hv)
 ·simp [World.setRow]
 ·have hb:Bw w (w.alloc (.cells zs T)):=(Below.refl _ _).alloc (Nat.le_refl _) _
  exact ⟨rfl,rfl,rfl,by simp [World.setRow],λk hk=>by
   have:((w.alloc (.cells zs T)).setRow w.heap.size ⟨cs⟩).heap[k]? = (w.alloc (.cells zs T)).heap[k]? := by
    simp [World.setRow,Array.getElem?_modify]
    intro e;omega
   exact this.trans (hb.block k hk)⟩
end
structure Up (lo:Nat) (w w':World):Prop where
 size:w.heap.size<=w'.heap.size
 block:∀ b,lo<=b->b<w.heap.size->w'.heap[b]? = w.heap[b]?
theorem Up.of_below {lo:Nat} {w w':World} (hb:Bw w w'):Up lo w w':=⟨hb.size,λb _ h=>hb.block b h⟩
structure Elem (α:Type) where
 sz:Nat
 P:Nat->World->List Value->α->Prop
 len:∀ {lo w ys x},P lo w ys x->ys.length=sz
 one:∀ {lo w ys x},P lo w ys x->ys.all (·.oneCell')=true
 keep:∀ {lo w w' ys x},P lo w ys x->Up lo w w'->P lo w' ys x
 mono:∀ {lo lo' w ys x},P lo w ys x->lo'<=lo->P lo' w ys x
def lowA (lo:Nat) (A:OA):Prop:=∀ x,x∈gOf A->lo<=x
theorem RS.up {w w':World} {size n c lo:Nat} {A:OA} {xs:List Value} (h:RS w size A n c xs) (hl:lowA lo A) (hu:Up lo w w'):RS w' size A n c xs:=by
 obtain ⟨hn,A',c',hv,h1,h2,h3⟩:=h
 injection hv with e1 e2 e3
 subst e1;subst e3
 refine ⟨hn,A,c,rfl,h1,h2,λhp=>?_⟩
 obtain ⟨b,o,rfl,h4,h5,h6⟩:=h3 hp
 have hlb:=hl b (by simp [gOf])
 refine ⟨b,o,rfl,h4,Nat.lt_of_lt_of_le h5 hu.size,λj hj=>?_⟩
 rw [<- h6 j hj]
 simp [World.cell?,hu.block b hlb h5]
def Ziq {α:Type} (E:Elem α) (lo:Nat) (w:World) (v:Value) (l:List α):Prop :=
 ∃ (A:OA) (c:Nat) (cs:List Value),v=.slice A l.length c/\RS w E.sz A l.length c cs/\lowA lo A/\∀ (i:Nat) (h:i<l.length),E.P lo w ((cs.drop (i*E.sz)).take E.sz) l[i]
theorem Ziq.keep {α:Type} {E:Elem α} {lo:Nat} {w w':World} {v:Value} {l:List α} (h:Ziq E lo w v l) (hu:Up lo w w'):Ziq E lo w' v l:=by
 obtain ⟨A,c,cs,rfl,hr,hl,hc⟩:=h
 exact ⟨A,c,cs,rfl,hr.up hl hu,hl,λi hi=>E.keep (hc i hi) hu⟩
theorem Ziq.mono {α:Type} {E:Elem α} {lo lo':Nat} {w:World} {v:Value} {l:List α} (h:Ziq E lo w v l) (hl:lo'<=lo):Ziq E lo' w v l:=by
 obtain ⟨A,c,cs,rfl,hr,hA,hc⟩:=h
 exact ⟨A,c,cs,rfl,hr,λx hx=>Nat.le_trans hl (hA x hx),λi hi=>E.mono (hc i hi) hl⟩
theorem Ziq.step {α:Type} {E:Elem α} {lo:Nat} {w w':World} {v:Value} {l:List α} (hb:Bw w w') (h:Ziq E lo w v l):Ziq E lo w' v l:=h.keep (Up.of_below hb)
theorem Ziq.slice {α:Type} {E:Elem α} {lo:Nat} {w:World} {v:Value} {l:List α} (h:Ziq E lo w v l):∃ A c,v=.slice A l.length c/\l.length<=c/\c<=maxLen:=by
 obtain ⟨A,c,cs,rfl,hr,hl,hc⟩:=h
 obtain ⟨h1,h2,_⟩:=hr.open_
 exact ⟨A,c,rfl,h1,h2⟩
theorem Ziq.at_ {α:Type} {E:Elem α} {lo:Nat} {w:World} {A:OA} {c:Nat} {l:List α} (h:Ziq E lo w (.slice A l.length c) l) {k:Nat} (hk:k<l.length) :
  ∃ (b o:Nat) (ys:List Value),A=some ⟨b,o,none⟩/\b<w.heap.size/\ys.length=E.sz/\E.P lo w ys l[k]/\∀ j v,ys[j]? = some v->w.cell? ⟨b,o+k*E.sz+j,none⟩=some v:=by
 obtain ⟨A',c',cs,hv,hr,hl,hc⟩:=h
 injection hv with e1 e2 e3
 subst e1;subst e3
 obtain ⟨h1,h2,h3⟩:=hr.open_
 obtain ⟨b,o,hA,hb,hcell⟩:=h3 qo
 have hp:=hc k hk
 have hle:(k+1)*E.sz<=l.length*E.sz:=Nat.mul_le_mul_right _ hk
 rw [Nat.succ_mul] at hle
 refine ⟨b,o,_,hA,hb,E.len hp,hp,λj v hv=>?_⟩
 have hj:j<E.sz:=by
  rcases Nat.lt_or_ge j E.sz with h|h
  ·exact h
  ·rw [List.getElem?_eq_none (by rw [E.len hp];exact h)] at hv;cases hv
 rw [List.getElem?_take_of_lt hj,List.getElem?_drop] at hv
 rw [Nat.add_assoc,hcell _ qo]
 exact hv
def Zvt {α:Type} (E:Elem α) (lo:Nat) (w:World) (l:List α) (cs:List Value) (k:Nat):Prop:=cs.length=l.length*E.sz/\∀ (j:Nat) (h:j<l.length),j<k->E.P lo w ((cs.drop (j*E.sz)).take E.sz) l[j]
theorem Zvt.keep {α:Type} {E:Elem α} {lo:Nat} {w w':World} {l:List α} {cs:List Value} {k:Nat} (h:Zvt E lo w l cs k) (hu:Up lo w w'):Zvt E lo w' l cs k:=⟨h.1,λj hj hk=>E.keep (h.2 j hj hk) hu⟩
theorem Zwe {cs zs:List Value} {k sz n:Nat} (hl:cs.length=n*sz) (hk:k<n) (hz:zs.length=sz):((cs.take (k*sz)++zs++cs.drop (k*sz+sz)).drop (k*sz)).take sz=zs:=by
 have h1:k*sz+sz<=n*sz:=by rw [<- Nat.succ_mul];exact Nat.mul_le_mul_right _ hk
 rw [List.append_assoc,List.drop_append_of_le_length (by rw [List.length_take];omega)]
 rw [List.drop_eq_nil_of_le (by rw [List.length_take];omega),List.nil_append,List.take_append_of_le_length qo,<- hz,List.take_length]
theorem Zo4 {cs zs:List Value} {j k sz n:Nat} (hl:cs.length=n*sz) (hk:k<n) (hj:j<n) (hjk:j≠k) (hz:zs.length=sz):((cs.take (k*sz)++zs++cs.drop (k*sz+sz)).drop (j*sz)).take sz=(cs.drop (j*sz)).take sz:=by
 have h1:k*sz+sz<=n*sz:=by rw [<- Nat.succ_mul];exact Nat.mul_le_mul_right _ hk
 have h2:j*sz+sz<=n*sz:=by rw [<- Nat.succ_mul];exact Nat.mul_le_mul_right _ hj
 apply List.ext_getElem?
 intro i
 by_cases hi:i<sz
 ·rw [List.getElem?_take_of_lt hi,List.getElem?_take_of_lt hi,List.getElem?_drop,List.getElem?_drop]
  rcases Nat.lt_or_gt_of_ne hjk with h|h
  ·have:j*sz+sz<=k*sz:=by rw [<- Nat.succ_mul];exact Nat.mul_le_mul_right _ h
   rw [List.append_assoc,List.getElem?_append_left (by rw [List.length_take];omega),List.getElem?_take_of_lt qo]
  ·have:k*sz+sz<=j*sz:=by rw [<- Nat.succ_mul];exact Nat.mul_le_mul_right _ h
   rw [List.getElem?_append_right (by rw [List.length_append,List.length_take];omega),List.getElem?_drop,List.length_append,List.length_take]
   congr 1;omega
 ·rw [List.getElem?_eq_none (by rw [List.length_take];omega),List.getElem?_eq_none (by rw [List.length_take];omega)]
theorem Zvt.succ {α:Type} {E:Elem α} {lo:Nat} {w:World} {l:List α} {cs zs:List Value} {k:Nat} (h:Zvt E lo w l cs k) (hk:k<l.length) (hz:E.P lo w zs l[k]):Zvt E lo w l (cs.take (k*E.sz)++zs++cs.drop (k*E.sz+E.sz)) (k+1):=by
 have hzl:=E.len hz
 have h1:k*E.sz+E.sz<=l.length*E.sz:=by rw [<- Nat.succ_mul];exact Nat.mul_le_mul_right _ hk
 have hl:=h.1
 refine ⟨by simp only [List.length_append,List.length_take,List.length_drop];omega,λj hj hjk=>?_⟩
 by_cases e:j=k
 ·subst e;rw [Zwe hl hk hzl];exact hz
 ·rw [Zo4 hl hk hj e hzl];exact h.2 j hj qo
theorem Zap {P:Program} {w:World} {g:Nat} {t T:TypeId} {cs zs:List Value} {k:Nat} (ho:Own w g t cs) (hi:(P.info? T).map (·.size)=some zs.length) (hk:k+zs.length<=cs.length) (h1:zs.all (·.oneCell')=true) :
  ∃ w2,(Instr.storeAt T (.pointer (some ⟨g,k,none⟩)) (.agg ⟨zs⟩)).run P w=.ok () w2/\Own w2 g t (cs.take k++zs++cs.drop (k+zs.length))/\(∀ b,b≠g->w2.heap[b]? = w.heap[b]?)/\w2.heap.size=w.heap.size/\w2.os=w.os/\w2.tape=w.tape/\w2.output=w.output:=by
 have key:∀ (vs:List Value) (i:Nat) (w:World) (cs:List Value),Own w g t cs->k+i+vs.length<=cs.length->(vs.all (·.oneCell')=true) ->
   ∃ w2,(storeCells ⟨g,k,none⟩ vs i).run P w=.ok () w2/\Own w2 g t (cs.take (k+i)++vs++cs.drop (k+i+vs.length))/\(∀ b,b≠g->w2.heap[b]? = w.heap[b]?)/\w2.heap.size=w.heap.size/\w2.os=w.os/\w2.tape=w.tape/\w2.output=w.output:=by
  intro vs
  induction vs with
  | nil=>intro i w cs ho _ _;exact ⟨w,by simp [storeCells],by simpa using ho,λ_ _=>rfl,rfl,rfl,rfl,rfl⟩
  | cons v vs ih =>
   intro i w cs ho hl h1
   simp only [List.length_cons] at hl
   simp only [List.all_cons,Bool.and_eq_true] at h1
   have hadd:(⟨g,k,none⟩:Addr).add i=⟨g,k+i,none⟩:=by unfold Addr.add;split<;>simp_all
   have hst:(store ⟨g,k+i,none⟩ v).run P w=.ok () (w.setCell ⟨g,k+i,none⟩ v):=by
    rw [run_store P w _ _ _ h1.1]
    rw [ho.cell,ho.frozen,List.getElem?_eq_getElem qo]
    rfl
   obtain ⟨w2,hr,ho2,hb,hs,e1,e2,e3⟩:=ih (i+1) (w.setCell ⟨g,k+i,none⟩ v) (cs.set (k+i) v) (ho.set_ _ _) (by rw [List.length_set];omega) h1.2
   refine ⟨w2, ?_, ?_,λb hbg=>(hb b hbg).trans (Below.heap_setCell _ _ _ _ hbg),by rw [hs];simp [World.setCell],by rw [e1];rfl,by rw [e2];rfl,by rw [e3];rfl⟩
   ·simp only [storeCells,Sem.run_bind,hadd,hst,Result.andThen_ok]
    exact hr
   ·have e:(cs.set (k+i) v).take (k+(i+1))++vs++(cs.set (k+i) v).drop (k+(i+1)+vs.length)=cs.take (k+i)++(v::vs)++cs.drop (k+i+(v::vs).length):=by
     have a1:(cs.set (k+i) v).take (k+(i+1))=cs.take (k+i)++[v]:=by
      rw [show k+(i+1)=(k+i)+1 by omega,List.take_succ_eq_append_getElem (by rw [List.length_set];omega)]
      rw [List.take_set,List.set_eq_of_length_le (by rw [List.length_take];omega),List.getElem_set_self]
     have a2:(cs.set (k+i) v).drop (k+(i+1)+vs.length)=cs.drop (k+i+(v::vs).length):=by
      rw [List.drop_set_of_lt qo]
      congr 1;simp only [List.length_cons];omega
     rw [a1,a2];simp
    rw [<- e];exact ho2
 obtain ⟨w2,hr,ho2,hb⟩:=key zs 0 w cs ho qo h1
 simp only [Nat.add_zero] at ho2
 refine ⟨w2, ?_,ho2,hb⟩
 cases hq:P.info? T with
 | none=>simp [hq] at hi
 | some i =>
  have hs:i.size=zs.length:=by simpa [hq] using hi
  simp [Instr.storeAt,Instr.sureAddr,storeVar,sizeOf,typeInfo,hq,hs,Value.cells,hr]
end
section
set_option maxRecDepth 100000
open Go.RowKit Go.Lib
def nodeP (lo:Nat) (w:World) (ys:List Value) (x:Zac):Prop:=∃ A c,ys=[.int .i64 x.1,str x.2.1,.int .i64 x.2.2.1,.slice A x.2.2.2.length c]/\x.2.1.length<=maxLen/\RS w 1 A x.2.2.2.length c (ints x.2.2.2)/\lowA lo A
def nodeE:Elem Zac where
 sz:=4
 P:=nodeP
 len:=by rintro lo w ys x ⟨A,c,rfl,_⟩;rfl
 one:=by rintro lo w ys x ⟨A,c,rfl,_⟩;rfl
 keep:=by rintro lo w w' ys x ⟨A,c,rfl,h1,h2,h3⟩ hu;exact ⟨A,c,rfl,h1,h2.up h3 hu,h3⟩
 mono:=by rintro lo lo' w ys x ⟨A,c,rfl,h1,h2,h3⟩ hl;exact ⟨A,c,rfl,h1,h2,λy hy=>Nat.le_trans hl (h3 y hy)⟩
def assP (lo:Nat) (w:World) (ys:List Value) (x:Zab):Prop:=ys=[str x.1,.int .i64 x.2]/\x.1.length<=maxLen
def assE:Elem Zab where
 sz:=2
 P:=assP
 len:=by rintro lo w ys x ⟨rfl,_⟩;rfl
 one:=by rintro lo w ys x ⟨rfl,_⟩;rfl
 keep:=by rintro lo w w' ys x h hu;exact h
 mono:=by rintro lo lo' w ys x h hl;exact h
def nodeB (x:Zac):Prop:=x.2.1.length<=1048576/\x.2.2.2.length<=1048576
def assB (x:Zab):Prop:=x.1.length<=1048576
theorem Up.refl (lo:Nat) (w:World):Up lo w w:=⟨Nat.le_refl _,λ_ _ _=>rfl⟩
theorem Up.setCell {lo:Nat} {a w:World} (h:Up lo a w) {p:Addr} (hp:p.block<lo) (u:Value):Up lo a (w.setCell p u) :=
 ⟨by simpa [World.setCell] using h.size,λb h1 h2=>(Below.heap_setCell _ _ _ _ qo).trans (h.block b h1 h2)⟩
theorem Up.drewN {lo:Nat} {a w:World} (h:Up lo a w) (n:Nat):Up lo a (w.drewN n):=⟨h.size,h.block⟩
theorem Up.trans {lo:Nat} {a b c:World} (h:Up lo a b) (k:Up lo b c):Up lo a c:=⟨Nat.le_trans h.size k.size,λi h1 h2=>(k.block i h1 (Nat.lt_of_lt_of_le h2 h.size)).trans (h.block i h1 h2)⟩
theorem Up.step {lo:Nat} {a b c:World} (hb:Bw b c) (h:Up lo a b):Up lo a c:=h.trans (Up.of_below hb)
def progP (lo:Nat) (w:World) (ys:List Value) (x:Zag):Prop:=∃ u v,ys=[u,v]/\Ziq nodeE lo w u x.1/\Ziq assE lo w v x.2
def progE:Elem Zag where
 sz:=2
 P:=progP
 len:=by rintro lo w ys x ⟨u,v,rfl,_⟩;rfl
 one:=by
  rintro lo w ys x ⟨u,v,rfl,h1,h2⟩
  obtain ⟨A,c,rfl,_⟩:=h1.slice
  obtain ⟨A2,c2,rfl,_⟩:=h2.slice
  rfl
 keep:=by rintro lo w w' ys x ⟨u,v,rfl,h1,h2⟩ hu;exact ⟨u,v,rfl,h1.keep hu,h2.keep hu⟩
 mono:=by rintro lo lo' w ys x ⟨u,v,rfl,h1,h2⟩ hl;exact ⟨u,v,rfl,h1.mono hl,h2.mono hl⟩
def Zws (x:Zag):Prop:=(x.1.length<=1048576/\∀ y∈x.1,nodeB y)/\(x.2.length<=1048576/\∀ y∈x.2,assB y)
end
section
set_option maxRecDepth 100000
open Go.RowKit
theorem eqlV (x y z p q r:Int) (w:World):(binOp .eql 40 (Zbi x y z) (Zbi p q r)).run Tryz.prog w=.ok (.bool (decide (x=p)&&(decide (y=q)&&decide (z=r)))) w:=by
 have u3:=Tryz.underlying3
 have hS:Tryz.prog.underlying 40=some (.struct (Tryz.prog.fieldsOf 40)):=kr
 have hp:Tryz.prog.stoodInHeld 40=false:=kr
 rw [run_eql_struct,show (10000:Nat)=9999+1 from rfl,run_equalIn_agg w 9999 40 _ _ hS hp]
 simp only [Program.fieldsOf,Tryz.underlying40]
 go_simp
 by_cases h1:x=p<;>by_cases h2:y=q<;>by_cases h3:z=r<;>simp [h1,h2,h3]
theorem Zji (x y z:Int) (w:World) :
  CR 164 #[Zbi x y z] w ((.bool (validV x y z))):=by
 have heq:∀ wx:World,(binOp .eql 40 (.agg #[.int .i64 x,.int .i64 y,.int .i64 z]) (.agg #[.int .i64 (cl x),.int .i64 (cl y),.int .i64 (cl z)])).run Tryz.prog wx=.ok (.bool (validV x y z)) wx:=λwx=>eqlV x y z (cl x) (cl y) (cl z) wx
 have hg:Tryz.prog.eqGuardType Tryz.prog.depth 40=false:=kr
 go_enter Tryz.func164,Tryz.ntmps164
 go_wp2_with fail
 go_region_held3 (λw'=>w'.cell? ⟨w.heap.size,0,none⟩=some (.int .i64 x)/\w'.cell? ⟨w.heap.size,1,none⟩=some (.int .i64 y)/\w'.cell? ⟨w.heap.size,2,none⟩=some (.int .i64 z))
  (first|((try dsimp only);refine ⟨?_, ?_, ?_⟩<;>(go_simp;done))|go_keep)
  (first|(go_at_call 218;(with_reducible refine (Zx9 _ _ _ _).mono ?_);rintro e w' ⟨rfl,hb⟩;have hz:=hb.size;(try simp at hz);obtain ⟨c0,f0,z0⟩:=bxx hb (w.heap.size))|fail)
 all_goals
  go_wp2
  go_ret
  exact ⟨rfl,bll⟩
theorem Ze9 (x y z:Int) (w:World) :
  CR 161 #[Zbi x y z] w ((.bool (validV x y z))):=by
 have heq:∀ wx:World,(binOp .eql 40 (.agg #[.int .i64 x,.int .i64 y,.int .i64 z]) (.agg #[.int .i64 (cl x),.int .i64 (cl y),.int .i64 (cl z)])).run Tryz.prog wx=.ok (.bool (validV x y z)) wx:=λwx=>eqlV x y z (cl x) (cl y) (cl z) wx
 have hg:Tryz.prog.eqGuardType Tryz.prog.depth 40=false:=kr
 go_enter Tryz.func161,Tryz.ntmps161
 go_wp2_with fail
 go_region_held3 (λw'=>w'.cell? ⟨w.heap.size,0,none⟩=some (.int .i64 x)/\w'.cell? ⟨w.heap.size,1,none⟩=some (.int .i64 y)/\w'.cell? ⟨w.heap.size,2,none⟩=some (.int .i64 z))
  (first|((try dsimp only);refine ⟨?_, ?_, ?_⟩<;>(go_simp;done))|go_keep)
  (first|(go_at_call 166;(with_reducible refine (Zll _ _ _ _).mono ?_);rintro e w' ⟨rfl,hb⟩;have hz:=hb.size;(try simp at hz);obtain ⟨c0,f0,z0⟩:=bxx hb (w.heap.size))|fail)
 all_goals
  go_wp2
  go_ret
  exact ⟨rfl,bll⟩
end
section
set_option maxRecDepth 100000
open Go.RowKit Go.Lib
abbrev Zbv (p:Zau):Value:=.agg #[.int .i64 (p 0),.int .i64 (p 1),.int .i64 (p 2),.int .i64 (p 3),.int .i64 (p 4),.int .i64 (p 5),.int .i64 (p 6),.int .i64 (p 7),.int .i64 (p 8),.int .i64 (p 9),.int .i64 (p 10),.int .i64 (p 11)]
theorem Zn0 {x:Int} (h:x=cl x):Zca x:=by have:=Ze4 x;unfold Zca;omega
theorem Ztt {x y z:Int} (h:validV x y z=true):∀ u∈[x,y,z],Zca u:=by
 unfold validV at h
 simp only [Bool.and_eq_true,decide_eq_true_eq] at h
 intro u hu
 simp only [List.mem_cons,List.not_mem_nil,or_false] at hu
 rcases hu with rfl|rfl|rfl
 ·exact Zn0 h.1
 ·exact Zn0 h.2.1
 ·exact Zn0 h.2.2
def ptAt (p:Zau) (k:Nat):Bool:=validV (p (3*k)) (p (3*k+1)) (p (3*k+2))
theorem Ztu {p:Zau} (h:Zba p=true):validV (p 0) (p 1) (p 2)=true/\validV (p 3) (p 4) (p 5)=true/\validV (p 6) (p 7) (p 8)=true/\validV (p 9) (p 10) (p 11)=true:=by
 unfold Zba at h
 simpa only [Bool.and_eq_true] using h
theorem pt_all {p:Zau} (h:∀ j,j<4->ptAt p j=true):Zba p=true:=by
 have h0:=h 0 qo;have h1:=h 1 qo;have h2:=h 2 qo;have h3:=h 3 qo
 unfold ptAt at h0 h1 h2 h3
 unfold Zba
 rw [h0,h1,h2,h3];rfl
theorem Zwp {p:Zau} (h:Zba p=true) {k:Nat} (hk:k<4):ptAt p k=true:=by
 obtain ⟨h0,h1,h2,h3⟩:=Ztu h
 rcases (show k=0∨k=1∨k=2∨k=3 by omega) with rfl|rfl|rfl|rfl
 ·exact h0
 ·exact h1
 ·exact h2
 ·exact h3
theorem pt_bad {p:Zau} {k:Nat} (hk:k<4) (h:ptAt p k=false):Zba p=false:=by
 cases hv:Zba p with
 | false=>rfl
 | true=>rw [Zwp hv hk] at h;cases h
theorem pt_at (p:Zau) (k:Nat) (hk:k<4):∃ x y z:Int,(∀ wx:World,(Instr.index 41 (Zbv p) (.int .i64 (k:Int))).run Tryz.prog wx=.ok (Zbi x y z) wx)/\validV x y z=ptAt p k/\(Zh0 p).take (k+1)=(Zh0 p).take k++[Zop x y z]:=by
 rcases (show k=0∨k=1∨k=2∨k=3 by omega) with rfl|rfl|rfl|rfl
 all_goals exact ⟨_,_,_,λwx=>by kernel_rfl,rfl,rfl⟩
theorem Zfg (p:Zau) (w:World) :
  CR 99 #[Zbv p] w ((.bool (Zba p))):=by
 have HV:=qh (∀ (x y z:Int) (b:Bool),validV x y z=b->∀ wx,CR 161 #[Zbi x y z] wx (.bool b)) (λx y z b h wx=>by subst h;exact Ze9 x y z wx)
 have HP:=qh (Zba p=(validV (p 0) (p 1) (p 2)&&(validV (p 3) (p 4) (p 5)&&(validV (p 6) (p 7) (p 8)&&validV (p 9) (p 10) (p 11))))) rfl
 go_enter Tryz.func99,Tryz.ntmps99
 go_wp2_with fail
 go_loopw [4,7] (λ_ i wr=>∃ k:Nat,k<=4/\i=.int .i64 k/\(∀ j,j<k->ptAt p j=true)/\Bw w wr) (λ_ i _=>4-(RowKit.intOf i).toNat)
 case atStart=>exact ⟨0,qo,rfl,λj hj=>absurd hj (Nat.not_lt_zero j),bll⟩
 case round =>
  obtain ⟨k,hk,rfl,g0,hb⟩:=hrel
  obtain ⟨wo,rfl⟩:=qe wr
  have hz:=hb.size
  have HB:=hdQ hb
  have G0:=hdQ g0
  clear hb g0
  by_cases hk4:k<4
  ·obtain ⟨x,y,z,hidx,hv',_⟩:=pt_at p k hk4
   have HV':=hdQ hv'
   have i4:(k:Int)<4:=qo
   clear hv'
   cases hv:validV x y z with
   | true =>
    go_wp2_with (first|(go_at_call 161;refine (HV.out _ _ _ _ hv _).mono ?_;rintro e w' ⟨rfl,hbx⟩;have hzx:=hbx.size;(try simp at hzx);have HBX:=bh w hbx;clear hbx)|fail)
    go_roundw
    case rel=>exact ⟨k+1,qo,qg,λj hj=>by (by_cases e:j<k;exact G0.out j e;obtain rfl:j=k:=qo;exact HV'.out.symm.trans hv),HBX.out⟩
    case measure=>exact qn
   | false =>
    have HF:=qh (Zba p=false) (pt_bad hk4 (HV'.out.symm.trans hv))
    go_wp2_with (first|(go_at_call 161;refine (HV.out _ _ _ _ hv _).mono ?_;rintro e w' ⟨rfl,hbx⟩;have hzx:=hbx.size;(try simp at hzx);have HBX:=bh w hbx;clear hbx)|fail)
    go_ret
    exact ⟨Zaf HF.out.symm,HBX.out⟩
  obtain rfl:k=4:=qo
  have HF:=qh (Zba p=true) (pt_all G0.out)
  go_wp2_with fail
  go_ret
  exact ⟨Zaf HF.out.symm,bll⟩
theorem Zsc (x y z:Int) (w:World) (hv:validV x y z=true) (ht:Tab w) :
  CR 100 #[Zbi x y z] w ((str (Zop x y z))):=by
 have HV:=qh (∀ wx,CR 161 #[Zbi x y z] wx (.bool true)) (λwx=>by have:=Ze9 x y z wx;rw [hv] at this;exact this)
 have HF:=qh (∀ (wx:World) (A:OA),RS wx 1 A 3 3 (ints [x,y,z])->Bw w wx->CR 91 #[.slice A 3 3] wx (str (Zop x y z))) (λwx A h hbx=>Zfa (l:=[x,y,z]) wx h (Ztt hv) qs qs (ht.step hbx))
 clear hv ht
 go_enter Tryz.func100,Tryz.ntmps100
 go_wp2_with (first|(go_at_call 161;refine (HV.out _).mono ?_;rintro e w1 ⟨rfl,hb1⟩;have hz1:=hb1.size;(try simp at hz1);have c0:=λo=>hb1.cell (p:=⟨w.heap.size,o,none⟩) omm;have HB1:=bh w hb1;clear hb1)|fail)
 refine (HF.out _ _ ?_ bll).mono ?_
 ·exact Own.rs (n:=3) (size:=1) (by first|exact Own.new _ _ #[_,_,_]|exact Own.at_new (cs := #[_,_,_]) rfl) rfl qd
 rintro e w' ⟨rfl,hb⟩
 have hz:=hb.size
 (try simp at hz)
 go_wp2_with fail
 go_ret
 exact ⟨rfl,bll⟩
theorem Zol (p:Zau) (w:World) (hv:Zba p=true) (ht:Tab w) :
  CR 46 #[Zbv p] w ((str (Zia p))):=by
 have HV:=qh (∀ wx,CR 99 #[Zbv p] wx (.bool true)) (λwx=>by have:=Zfg p wx;rw [hv] at this;exact this)
 have HF:=qh (∀ (x y z:Int),validV x y z=true->∀ wx:World,Bw w wx->CR 100 #[Zbi x y z] wx (str (Zop x y z))) (λx y z h wx hbx=>Zsc x y z wx h (ht.step hbx))
 have V:=hdQ hv
 clear hv ht
 go_enter Tryz.func46,Tryz.ntmps46
 go_wp2_with (first|(go_at_call 99;refine (HV.out _).mono ?_;rintro e w1 ⟨rfl,hb1⟩;have hz1:=hb1.size;(try simp at hz1);have c0:=λo=>hb1.cell (p:=⟨w.heap.size,o,none⟩) omm;have lt1:w.heap.size<w1.heap.size:=qo;have ne1:¬ w.heap.size=w1.heap.size:=qo;have HB1:=bh w hb1;clear hb1)|fail)
 have HG0:=qh (Zaj (w1.alloc (.cells #[] 9)) w.heap.size 9 1 (some ⟨w1.heap.size,0,none⟩) 0 0 (Zck ((Zh0 p).take 0))) (Zaj.lit w1 #[] 0 rfl qo (Nat.zero_le _))
 go_loopw [3,5,12] (λo _ i wr=>∃ (k:Nat) (B:OA) (d:Nat),k<=4/\i=.int .i64 k/\o=.slice B k d/\Zaj wr w.heap.size 9 1 B k d (Zck ((Zh0 p).take k))/\Bw w wr) (λ_ _ i _=>4-(RowKit.intOf i).toNat)
 case atStart=>exact ⟨0,_,_,qo,rfl,rfl,HG0.out,bll⟩
 case round =>
  obtain ⟨k,B,d,hk,rfl,rfl,hg,hb⟩:=hrel
  obtain ⟨wo,rfl⟩:=qe wr
  have HG:=hdQ hg
  have HB:=hdQ hb
  have hz:=hb.size
  clear hg hb HG0 c0 HB1
  by_cases hk4:k<4
  ·obtain ⟨x,y,z,hidx,hv',hs'⟩:=pt_at p k hk4
   have i4:(k:Int)<4:=qo
   have HS:=qh (Zck ((Zh0 p).take (k+1))=Zck ((Zh0 p).take k)++Zck [Zop x y z]) (by rw [hs'];simp)
   obtain ⟨y',hy⟩:=qv (Zop x y z)
   have HC:=qh (∀ wx:World,Bw w wx->CR 100 #[Zbi x y z] wx (str y')) (λwx hbx=>by rw [<- hy];exact HF.out _ _ _ (hv'.trans (Zwp V.out hk4)) wx hbx)
   rw [hy] at HS
   have HK:=qh ((Zck ((Zh0 p).take k)).length=k*1) HG.out.len
   clear hy hv' hs'
   go_wp2_with fail
   refine (HC.out _ bll).mono ?_
   rintro e wA ⟨rfl,hbA⟩
   have bA:Bw w wA:=bst hbA
   have zA:=hbA.size
   (try simp at zA)
   have HGA:=qh (Zaj wA w.heap.size 9 1 B k d (Zck ((Zh0 p).take k))) (Zaj.step hbA (gwx HG.out))
   clear hbA
   go_wp2_with (at_builtin;refine wpA (w.heap.size) Tryz.underlying50 T.infoString (Zck ((Zh0 p).take k)) (Zck [y']) (Zh6 _) ?_ ?_ ?_;exact (gwx HGA.out);exact (ltt 1);rintro A' c' w2 gA;have g1:=gA.1;have g2:=gA.2.1;rw [<- HS.out] at g1;have HG1:=hdQ g1;have HB2:=qh (Bw w w2) (Below.trans (Below.alloc bA qo _) g2);clear gA g1 g2)
   go_roundw
   case rel=>exact ⟨k+1,_,_,qo,qg,rfl,HG1.out,HB2.out⟩
   case measure=>exact qn
  obtain rfl:k=4:=qo
  have HRS:=qh (RS wo 1 B (Zh0 p).length d (Zck (Zh0 p))) HG.out.rs
  have HJL:=qh ((join (Zh0 p) [32]).length<=140737488355328) (by have h1:(join (Zh0 p) [32]).length<=147:=Zh9 p;omega)
  have HJ:=qh (∀ wx,wx=wo->CR 45 #[.slice B 4 d,.string ⟨#[32]⟩] wx (str (Zia p))) (λwx hx=>by
   subst hx
   exact (Zln (sep:=[32]) _ HRS.out (by simp [Zh0]) (by simp [Zh0]) HJL.out))
  go_wp2_with fail
  refine (HJ.out _ rfl).mono ?_
  rintro e w' ⟨rfl,hb⟩
  go_wp2_with fail
  go_ret
  exact ⟨rfl,Below.step hb HB.out HB.out.size⟩
end
section
open Go.ChangeShapes Go.WideShapes Go.ChangeAt Go.RowKit
end
section
open Go.RowKit
theorem Zgr (n:Nat):(madeCells #[Value.int .i64 0] n).toList=ints (List.replicate n 0):=by rw [toList_madeCells_one];simp [ints]
end
end Go.Proofs.YticdknjoapdmeaaGreatDoor
