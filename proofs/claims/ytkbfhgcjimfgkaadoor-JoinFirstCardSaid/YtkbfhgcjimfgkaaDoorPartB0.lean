/- The walk of link.fill. -/
import Derived.Test.YtkbfhgcjimfgkaaDoorPartA9
import Derived.Test.YtkbfhgcjimfgkaaDoorPartA7
set_option linter.unusedVariables false
set_option linter.unusedSimpArgs false
set_option linter.unusedSimpArgs false
namespace Go.Proofs.YtkbfhgcjimfgkaaDoor
open Go.RowKit
def fillL:List Fr→List Fr→Int→List Fr×List Fr×Int
 |s,[],n=>(s,[],n)
 |s,f::q,n=>if s.length<8∧n<1048576 then fillL (s++[f]) q (n+1)else(s,f::q,n)
theorem fillL_nil (s:List Fr)(n:Int):fillL s [] n=(s,[],n):=rfl
theorem fillL_go {s q:List Fr}{f:Fr}{n:Int}(h1:s.length<8)(h2:n<1048576):fillL s (f::q) n=fillL (s++[f]) q (n+1):=by rw[fillL,if_pos ⟨h1,h2⟩]
theorem fillL_no {s q:List Fr}{f:Fr}{n:Int}(h:¬(s.length<8∧n<1048576)):fillL s (f::q) n=(s,f::q,n):=by rw[fillL,if_neg h]
def Lk.filled (l:Lk):Lk:=⟨l.epoch,(fillL l.sent l.queue l.next).2.2,(fillL l.sent l.queue l.next).1,(fillL l.sent l.queue l.next).2.1,l.heard⟩
def Lk.pks (l:Lk)(n:Nat):List Pkt:=((List.range (l.sent.length-n)).map fun j=>l.pk (n+j))
structure Fl (base b:Nat) (l:Lk) (sv qv:Value) (w:World):Prop where
 box:Blk b (.cells #[.int .i64 l.epoch,.int .i64 l.next,sv,qv,.int .i64 l.heard] 70 (0,0)) w
 sent:OwnO (fun z=>z<base∨z=b) base sv l.sent w
 queue:∃a c,qv=.slice a l.queue.length c∧RdS (fun z=>base≤z∧z<w.heap.size∧z≠b∧sv.ownBlock≠some z) w l.queue a l.queue.length c
 ne:sv.ownBlock≠some b
 lo:base≤b
theorem Fl.go {base b:Nat}{l:Lk}{sv qv:Value}{w w':World}(h:Fl base b l sv qv w)(hb:Below w.heap.size w w'):Fl base b l sv qv w':=by
 obtain⟨a,c,hq,hr⟩:=h.queue;exact⟨h.box.go hb,h.sent.go hb,⟨a,c,hq,hr.mono fun z hz=>⟨⟨hz.1,Nat.lt_of_lt_of_le hz.2.1 hb.size,hz.2.2⟩,hb.block z hz.2.1⟩⟩,h.ne,h.lo⟩
theorem RdS.frameO {A:Nat→Prop}{w:World}{f:Fr}{l:List Fr}{a:Option Addr}{n c:Nat}(hr:RdS A w (f::l) a n c):
 ∃g off ak nk ck,a=some ⟨g,off,none⟩∧A g∧g<w.heap.size∧RdS A w f.op ak nk ck∧f.fits∧w.cell? ⟨g,off,none⟩=some (.int .i64 f.kind)∧w.cell? ⟨g,off+1,none⟩=some (.int .i64 f.heard)∧
  w.cell? ⟨g,off+1+1,none⟩=some (.int .i64 f.epoch)∧w.cell? ⟨g,off+1+1+1,none⟩=some (.slice ak nk ck)∧w.cell? ⟨g,off+1+1+1+1,none⟩=some (.string f.text):=by
 have hn:=hr.1;obtain⟨g,off,e,hA,hb,hcs⟩:=hr.frame (by rw[hn];simp);obtain⟨ak,nk,ck,h1,h2,d0,d1,d2,d3,d4⟩:=hcs 0 (by simp);simp only[List.getElem_cons_zero,Nat.zero_mul,Nat.add_zero]at h1 h2 d0 d1 d2 d3 d4;exact⟨g,off,ak,nk,ck,e,hA,hb,h1,h2,d0,d1,d2,d3,d4⟩
theorem RdS.tail {α:Type} [Rep α] {A:Nat→Prop}{w:World}{x:α}{l:List α}{g off n c:Nat}(hr:RdS A w (x::l) (some ⟨g,off,none⟩) (n+1) c):(1<c→RdS A w l (some ⟨g,off+Rep.n α,none⟩) n (c-1))∧(c=1→l=[]∧n=0):=by
 have h0:=hr.1;simp at h0;have h1:=hr.2.1;have h2:=hr.2.2.1;refine⟨fun hc=>⟨h0,by omega,by omega,(fun h=>by cases h),fun hn=>?_⟩,fun hc=>⟨List.eq_nil_of_length_eq_zero (by omega),by omega⟩⟩;obtain⟨b,o,e,hA,hb,he⟩:=hr.2.2.2.2 (by omega);injection e with e;injection e with e1 e2;subst e1 e2;refine⟨g,off+Rep.n α,rfl,hA,hb,fun i y hi=>?_⟩;obtain⟨xs,r1,r2⟩:=he (i+1) y (by simpa using hi);refine⟨xs,r1,fun j u hu=>?_⟩;have:=r2 j u hu;rwa[show off+(i+1)*Rep.n α+j=off+Rep.n α+i*Rep.n α+j from by rw[Nat.add_mul];omega]at this
theorem Fl.moved {base b:Nat}{ep nx he:Int}{s q:List Fr}{f:Fr}{sv qv sv' qv':Value}{w W:World}(h:Fl base b ⟨ep,nx,s,f::q,he⟩ sv qv w)(ht:Touch (fun z=>z=b∨sv.ownBlock=some z) w W)
 (hb:Blk b (.cells #[.int .i64 ep,.int .i64 nx,sv',qv,.int .i64 he] 70 (0,0)) W) (ho:OwnO (fun z=>z<base∨z=b) base sv' (s++[f]) W) (hs:∀k,sv'.ownBlock=some k→sv.ownBlock=some k∨w.heap.size≤k)
 (hq:∀a c,qv=.slice a (q.length+1) c→∃a' c',qv'=.slice a' q.length c'∧(RdS (fun z=>base≤z∧z<w.heap.size∧z≠b∧sv.ownBlock≠some z) w (f::q) a (q.length+1) c→RdS (fun z=>base≤z∧z<w.heap.size∧z≠b∧sv.ownBlock≠some z) w q a' q.length c')):
 Fl base b ⟨ep,nx+1,s++[f],q,he⟩ sv' qv' ((W.setCell ⟨b,3,none⟩ qv').setCell ⟨b,1,none⟩ (.int .i64 (nx+1))):=by
 have hlo:=h.lo;have hbl:=h.box.lt;obtain⟨a,c,hqv,hr⟩:=h.queue;obtain⟨a',c',hqv',hr'⟩:=hq a c (by simpa using hqv);have hz:=ht.size;have hne:sv'.ownBlock≠some b:=by
  intro e;rcases hs b e with h1|h1
  ·exact h.ne h1
  ·omega
 have ht2:Touch (fun z=>z=b) W ((W.setCell ⟨b,3,none⟩ qv').setCell ⟨b,1,none⟩ (.int .i64 (nx+1))):=(Touch.setCell (S:=fun z=>z=b) (Touch.refl _ _) (.inl rfl) _).setCell (.inl rfl) _;refine⟨(hb.set 3 qv').set 1 (.int .i64 (nx+1)),ho.touch ht2 (fun k hk hs=>⟨.inr hs,fun e=>hne (hs▸e)⟩),⟨a',c',hqv',?_⟩,hne,hlo⟩;refine(hr' (by simpa using hr)).mono fun z hz2=>⟨⟨hz2.1,by simp;omega,hz2.2.2.1,fun e=>?_⟩,?_⟩
 ·rcases hs z e with h1|h1
  ·exact hz2.2.2.2 h1
  ·omega
 ·rw[ht2.block z (by omega) hz2.2.2.1,ht.block z hz2.2.1 (by rintro(h1|h1);exact hz2.2.2.1 h1;exact hz2.2.2.2 h1)]
theorem infoPk:(Tryd.prog.info? 46).map (fun i=>(i.zero,i.size,i.bytes))=some (some (.agg #[.int .i64 0,.int .i64 0,.bool false,.int .i64 0,.int .i64 0,.int .i64 0,.int .i64 0,.slice none 0 0,.string ⟨#[]⟩]),9,96):=by kernel_rfl
def FillMid (base b:Nat)(l0:Lk)(sv0:Value)(f:Nat)(w0 w:World):Prop:=
 ∃s q nx sv qv,q.length=f∧Fl base b ⟨l0.epoch,nx,s,q,l0.heard⟩ sv qv w∧fillL s q nx=fillL l0.sent l0.queue l0.next∧1≤nx∧nx≤1048576∧s.length≤1048600∧Touch (fun z=>z=b∨sv0.ownBlock=some z) w0 w∧
  (∀k,sv.ownBlock=some k→sv0.ownBlock=some k∨w0.heap.size≤k)∧(∀g∈s++q,g.op.length≤1000000000)
def FillP (base b:Nat)(l:Lk)(sv0:Value)(w:World)(e:Ending)(w':World):Prop:=
 ∃a c sv qv,e=.returned (.slice a (l.filled.pks l.sent.length).length c)∧RdS (fun z=>w.heap.size≤z∧z<w'.heap.size) w' (l.filled.pks l.sent.length) a (l.filled.pks l.sent.length).length c∧Fl base b l.filled sv qv w'∧Touch (fun z=>z=b∨sv0.ownBlock=some z) w w'∧
  (∀k,sv.ownBlock=some k→sv0.ownBlock=some k∨w.heap.size≤k)
def FillQ (base b:Nat)(l:Lk)(sv0:Value)(w:World)(e:Ending)(w':World):Prop:=
 ∃w2 a c sv qv,e=.returned (.slice a (l.filled.pks l.sent.length).length c)∧Own (fun z=>z<w2.heap.size) w2.heap.size 46 (.slice a (l.filled.pks l.sent.length).length c) (l.filled.pks l.sent.length) w'∧Fl base b l.filled sv qv w2∧Below w2.heap.size w2 w'∧w.heap.size≤w2.heap.size∧Touch (fun z=>z=b∨sv0.ownBlock=some z) w w'∧
  (∀k,sv.ownBlock=some k→sv0.ownBlock=some k∨w.heap.size≤k)
theorem FillQ.p {base b:Nat}{l:Lk}{sv0:Value}{w:World}{e:Ending}{w':World}(h:FillQ base b l sv0 w e w'):FillP base b l sv0 w e w':=by
 obtain⟨w2,a,c,sv,qv,he,ho,hf,hb,hz,ht,hr⟩:=h;obtain⟨oa,oc,hoe,hor⟩:=ho.rd (fun k hk hx=>by have:=(ho.rowlt k hk).1;omega);injection hoe with ho1 ho2 ho3;subst ho1 ho3;exact⟨a,c,sv,qv,he,hor.mono fun z hz2=>⟨⟨by have:=hz2.2;omega,hz2.1⟩,rfl⟩,hf.go hb,ht,hr⟩
theorem fillL_more:∀(q s:List Fr)(n:Int),s.length≤(fillL s q n).1.length
 |[],s,n=>Nat.le_refl _
 |f::q,s,n=>by
  by_cases h:s.length<8∧n<1048576
  ·rw[fillL_go h.1 h.2];have:=fillL_more q (s++[f]) (n+1);simp at this;omega
  ·rw[fillL_no h];exact Nat.le_refl _
theorem fillL_ops:∀(q s:List Fr)(n:Int),(∀g∈s++q,g.op.length≤1000000000)→∀g∈(fillL s q n).1,g.op.length≤1000000000
 |[],s,n,h=>fun g hg=>h g (by simpa[fillL_nil]using hg)
 |f::q,s,n,h=>by
  by_cases hc:s.length<8∧n<1048576
  ·rw[fillL_go hc.1 hc.2];exact fillL_ops q (s++[f]) (n+1) (fun g hg=>h g (by simpa using hg))
  ·rw[fillL_no hc];exact fun g hg=>h g (List.mem_append_left _ hg)
theorem pks_len (l:Lk)(n:Nat):(l.pks n).length=l.sent.length-n:=by simp[Lk.pks]
theorem pks_next (l:Lk)(n j:Nat)(h:n+j<l.sent.length):(l.pks n).take (j+1)=(l.pks n).take j++[l.pk (n+j)]:=by
 have hj:j<(l.pks n).length:=by rw[pks_len];omega
 rw[List.take_succ_eq_append_getElem hj];congr 1;simp[Lk.pks]
set_option maxRecDepth 100000 in
set_option maxHeartbeats 16000000 in
theorem fill_own (base b:Nat)(l:Lk)(sv qv:Value)(w:World)(h:Fl base b l sv qv w)(h1:1≤l.next)(h2:l.next≤1048576)(hs:l.sent.length≤1048576)(hq:l.queue.length≤1048600)(hls:∀g∈l.sent++l.queue,g.op.length≤1000000000)(hhe0:I64 l.epoch∧I64 l.heard):
 Calls Tryd.prog 86 #[.pointer (some ⟨b,0,none⟩)] w (FillQ base b l sv w):=by
 obtain⟨sa,sc,hsv,-⟩:=h.sent.form;have H0:Hid (FillMid base b l sv l.queue.length w w):=⟨l.sent,l.queue,l.next,sv,qv,rfl,h,rfl,h1,h2,by omega,Touch.refl _ _,fun k hk=>.inl hk,hls⟩;obtain⟨i0,hi,hz0,hz1,hz2⟩:=info_parts infoF;have Hi:=Lib.hid hi;have Hz0:=Lib.hid hz0;have Hz1:=Lib.hid hz1;have Hz2:=Lib.hid hz2;obtain⟨j0,hi',hz0',hz1',hz2'⟩:=info_parts infoPk;have Ji:=Lib.hid hi';have Jz0:=Lib.hid hz0';have Jz1:=Lib.hid hz1';have Jz2:=Lib.hid hz2';clear hi hz0 hz1 hz2 hi' hz0' hz1' hz2';have Hmore:=Lib.hid (fillL_more l.queue l.sent l.next);have Hops:=Lib.hid (fillL_ops l.queue l.sent l.next hls);have hhe:=Lib.hid hhe0;have hc2:w.cell? ⟨b,2,none⟩=some (.slice sa l.sent.length sc):=by rw[←hsv];exact h.box.cell 2
 have Hpost:Hid (∀w2 a c sv' qv' W,Own (fun z=>z<w2.heap.size) w2.heap.size 46 (.slice a (l.filled.pks l.sent.length).length c) (l.filled.pks l.sent.length) W→Fl base b l.filled sv' qv' w2→Below w2.heap.size w2 W→w.heap.size≤w2.heap.size→Touch (fun z=>z=b∨sv.ownBlock=some z) w W→(∀k,sv'.ownBlock=some k→sv.ownBlock=some k∨w.heap.size≤k)→
  FillQ base b l sv w (.returned (.slice a (l.filled.pks l.sent.length).length c)) W):=fun w2 a c sv' qv' W r1 r2 r3 r4 r5 r6=>⟨w2,a,c,sv',qv',rfl,r1,r2,r3,r4,r5,r6⟩
 generalize FillQ base b l sv w=FP at*;have hlo:=h.lo;have hbl:=h.box.lt;clear h hsv h1 h2 hls hhe0;go_enter Tryd.func86,Tryd.ntmps86;go_wp2_with fail;clear hc2
 go_loopg [] l.queue.length (fun f wr=>FillMid base b l sv f w wr)
 case atStart=>exact H0.out
 case round=>
  obtain⟨s,q,nx,sv1,qv1,hqf,hfl,hfe,n1,n2,hsl,htw,hrow,hops⟩:=hrel;clear H0;obtain⟨sa1,sc1,hsv1,hsc,hsm,hsf⟩:=hfl.sent.form;obtain⟨qa1,qc1,hqv1,hqr⟩:=hfl.queue;simp only at hqv1 hqr hsv1 hsc;subst hsv1 hqv1;have hqc:=hqr.2.1;have hqm:=hqr.2.2.1;unfold maxLen at hsm hqm;obtain⟨c0,c1,c2,c3,c4⟩:=blk_cells5 hfl.box;simp only at c0 c1 c2 c3 c4;have cf:=hfl.box.frozen;have hwz:=htw.size;have HT:=Lib.hid htw;have HFl:=Lib.hid hfl;have HR:=Lib.hid hrow;have HO:=Lib.hid hops;have HE:=Lib.hid hfe;have HQ:=Lib.hid hqr;have hbz:=hfl.box.lt;have hneb:=hfl.ne;have Hneb:=Lib.hid hneb;clear htw hfl hrow hops hfe hqr hneb hsf;have key:(∃f q',q=f::q'∧s.length<8∧nx<1048576)∨(fillL s q nx=(s,q,nx)∧(q=[]∨(0<q.length∧¬s.length<8)∨(0<q.length∧s.length<8∧¬nx<1048576))):=by
   cases q with
   |nil=>exact .inr ⟨rfl,.inl rfl⟩
   |cons f q'=>
    by_cases ha:s.length<8
    ·by_cases hb:nx<1048576
     ·exact .inl ⟨f,q',rfl,ha,hb⟩
     ·exact .inr ⟨fillL_no (fun h=>hb h.2),.inr (.inr ⟨by simp,ha,hb⟩)⟩
    ·exact .inr ⟨fillL_no (fun h=>ha h.1),.inr (.inl ⟨by simp,ha⟩)⟩
  rcases key with⟨f,q',rfl,ha,hb⟩|⟨hend,hwhy⟩
  ·have hql:(f::q').length=q'.length+1:=by simp
   rw[hql]at c3 hqc HQ hqf;obtain⟨gk,rfl⟩:∃k,gk=k+1:=⟨gk-1,by omega⟩;have hd1:decide ((0:Int)<((q'.length+1:Nat):Int))=true:=decide_eq_true (by omega);have hd2:decide ((s.length:Int)<8)=true:=decide_eq_true (by omega);have Hgk:Hid (q'.length=gk):=by unfold Hid;omega
   obtain⟨g,off,ak,nk,ck,hqa,hgA,hgl,hrk,hfit,d0,d1,d2,d3,d4⟩:=HQ.out.frameO;subst hqa;have Hnext:=Lib.hid ((fillL_go ha hb).symm.trans HE.out);obtain⟨ns,hns⟩:∃ns,s.length=ns:=⟨_,rfl⟩;rw[hns]at c2 hsc hd2 ha hsl;have HFl':=HFl.out;rw[hns]at HFl';have HFl2:=Lib.hid HFl';have HO5:=Lib.hid HFl'.sent;simp only[hns]at HO5;have Hns:=Lib.hid hns;have Hqt:=HQ.out;obtain⟨hgA1,hgA2,hgA3,hgA4⟩:=hgA;obtain⟨fk,fh,fe,fo,ft⟩:=f;simp only at hrk d0 d1 d2 d3 d4;have Hrk:=Lib.hid hrk;have Hfit:=Lib.hid hfit;have HgA4:=Lib.hid hgA4;rw[hns]at HgA4;clear HFl' HFl hns hrk hfit hgA4 HE hql;have hX3:=Lib.hid HFl2.out.box;clear c0 c4 hqf;have hwr:Hid (∀k,(Value.slice sa1 ns sc1).ownBlock=some k→base≤k∧k<wr.heap.size∧k≠b):=by
    intro k hk;have:=HO5.out.rowlt k hk;refine⟨this.1,this.2,fun e=>?_⟩;have hn:=HFl2.out.ne;rw[e]at hk;exact hn hk
   have hcap:0<qc1:=by omega
   go_wp2_with fail;obtain⟨Vp,HV⟩:∃Vp:Nat→Value→World→Prop,Hid (Vp=fun i v W=>match i with
    |0=>v=.pointer (some ⟨b,0,none⟩)
    |1=>v=.pointer (some ⟨b,0,none⟩)
    |2=>v=.pointer (some ⟨b,0,none⟩)
    |3=>v=.pointer (some ⟨b,2,none⟩)
    |4=>v=.slice sa1 ns sc1
    |5=>v=.pointer (some ⟨b,0,none⟩)
    |6=>v=.pointer (some ⟨b,0,none⟩)
    |7=>v=.pointer (some ⟨b,3,none⟩)
    |8=>v=.slice (some ⟨g,off,none⟩) (q'.length+1) qc1
    |9=>v=.pointer (some ⟨g,off,none⟩)
    |10=>v=.agg #[.int .i64 fk,.int .i64 fh,.int .i64 fe,.slice ak nk ck,.string ft]
    |11=>∃g2,v=.slice (some ⟨g2,0,none⟩) 1 1∧Blk g2 (.cells #[.int .i64 fk,.int .i64 fh,.int .i64 fe,.slice ak nk ck,.string ft] 44 (0,0)) W∧wr.heap.size≤g2
    |12=>∃g2 o2 c2,v=.slice (some ⟨g2,o2,none⟩) (s.length+1) c2∧OwnO (fun z=>z<base∨z=b) base (.slice (some ⟨g2,o2,none⟩) (s.length+1) c2) (s++[(⟨fk,fh,fe,fo,ft⟩:Fr)]) W∧g2≠b∧((Value.slice sa1 ns sc1).ownBlock=some g2∨wr.heap.size≤g2)
    |13=>v=.pointer (some ⟨b,0,none⟩)
    |14=>v=.pointer (some ⟨b,2,none⟩)
    |_=>v=undef):=⟨_,rfl⟩
   obtain⟨Ip,HIp⟩:∃Ip:(Nat→Bool)→(Nat→Value)→World→Prop,Hid (Ip=fun L x W=>(Touch (fun z=>z=b∨(Value.slice sa1 ns sc1).ownBlock=some z) wr W∧(L 15=false→Blk b (.cells #[.int .i64 l.epoch,.int .i64 nx,.slice sa1 ns sc1,.slice (some ⟨g,off,none⟩) (q'.length+1) qc1,.int .i64 l.heard] 70 (0,0)) W)∧(L 12=false→OwnO (fun z=>z<base∨z=b) base (.slice sa1 ns sc1) s W)∧(L 15=true→∃v',Blk b (.cells #[.int .i64 l.epoch,.int .i64 nx,v',.slice (some ⟨g,off,none⟩) (q'.length+1) qc1,.int .i64 l.heard] 70 (0,0)) W∧OwnO (fun z=>z<base∨z=b) base v' (s++[(⟨fk,fh,fe,fo,ft⟩:Fr)]) W∧(∀k,v'.ownBlock=some k→(Value.slice sa1 ns sc1).ownBlock=some k∨wr.heap.size≤k)))):=⟨_,rfl⟩;refine region_lit3 (by kernel_rfl) (by kernel_rfl) (by kernel_rfl) [[],[],[1],[1,2],[1,2,3],[],[5],[5,6],[5,6,7],[5,6,7,8],[5,6,7,8,9],[5,6,7,8,9,10],[1,2,3,4,5,6,7,8,9,10,11],[0],[0,13],[0,1,2,3,4,5,6,7,8,9,10,11,12,13,14]] (by kernel_rfl) [some 32,some 33,some 34,some 35,some 36,some 37,some 38,some 39,some 40,some 41,some 42,some 43,some 44,some 45,some 46,none] (by kernel_rfl) [[0,13,14,15],[1,2,3,4,12,15],[2,3,4,12,15],[3,4,12,15],[4,12,15],[5,6,7,8,9,10,11,12,15],[6,7,8,9,10,11,12,15],[7,8,9,10,11,12,15],[8,9,10,11,12,15],[9,10,11,12,15],[10,11,12,15],[11,12,15],[12,15],[13,14,15],[14,15],[15]] (by kernel_rfl) [[],[],[],[],[],[],[],[],[],[],[],[],[],[],[],[]] [[],[],[1],[2],[3],[],[5],[6],[7],[8],[9],[10],[4,11],[0],[13],[12,14]] (by kernel_rfl)
    Ip
    Vp
    (fun j W W'=>match j with
     |12=>W.grownBy W' (Value.slice sa1 ns sc1).ownBlock
     |15=>Touch (fun z=>z=b) W W'
     |_=>Below W.heap.size W W')
    [fun x=>⟨(fZm 0 (.pointer (some ⟨b,0,none⟩)) (fEm 32)).toArray,[]⟩,fun x=>⟨(fZm 0 (.pointer (some ⟨b,0,none⟩)) (fEm 33)).toArray,[]⟩,fun x=>⟨(fZm 33 (x 1) (fEm 1)).toArray,[]⟩,fun x=>⟨(fZm 34 (x 2) (fEm 1)).toArray,[]⟩,fun x=>⟨(fZm 35 (x 3) (fEm 1)).toArray,[]⟩,fun x=>⟨(fZm 0 (.pointer (some ⟨b,0,none⟩)) (fEm 37)).toArray,[]⟩,fun x=>⟨(fZm 37 (x 5) (fEm 1)).toArray,[]⟩,fun x=>⟨(fZm 38 (x 6) (fEm 1)).toArray,[]⟩,fun x=>⟨(fZm 39 (x 7) (fEm 1)).toArray,[]⟩,fun x=>⟨(fZm 40 (x 8) (fEm 1)).toArray,[]⟩,fun x=>⟨(fZm 41 (x 9) (fEm 1)).toArray,[]⟩,fun x=>⟨(fZm 42 (x 10) (fEm 1)).toArray,[]⟩,fun x=>⟨(fZm 36 (x 4) (fZm 6 (x 11) (fEm 1))).toArray,[]⟩,fun x=>⟨(fZm 32 (x 0) (fEm 13)).toArray,[]⟩,fun x=>⟨(fZm 45 (x 13) (fEm 1)).toArray,[]⟩,fun x=>⟨(fZm 44 (x 12) (fZm 1 (x 14) [])).toArray,[]⟩]
    ?hF ?mono ?h0 ?step [0,1,2,3,4,5,6,7,8,9,10,11,12,13,14,15] (by kernel_rfl) ?fin
   case hF=>
    iterate 16 refine⟨fun x=>⟨by kernel_rfl,by kernel_rfl⟩,?_⟩
    trivial
   case mono=>
    intro i j hi hj hne hna hnk v W W' hE hv;rw[HV.out]at hv⊢;simp only[List.length_cons,List.length_nil]at hi hj
    match i,hi with
    |0,_|1,_|2,_|3,_|4,_|5,_|6,_|7,_|8,_|9,_|10,_|13,_|14,_|15,_=>exact hv
    |11,_=>
     match j,hj with
     |11,_=>exact absurd rfl hne
     |5,_|6,_|7,_|8,_|9,_|10,_=>exact absurd (by simp) hna
     |0,_|1,_|2,_|3,_|4,_|13,_|14,_=>exact(by obtain⟨g2,h1,h2,h3⟩:=hv;exact⟨g2,h1,h2.go hE,h3⟩)
     |12,_=>exact(by obtain⟨g2,h1,h2,h3⟩:=hv;exact⟨g2,h1,h2.grown hE (fun e=>by have:=hwr.out g2 e.symm;omega),h3⟩)
     |15,_=>exact(by obtain⟨g2,h1,h2,h3⟩:=hv;exact⟨g2,h1,h2.touch hE (by omega),h3⟩)
     |m+16,h=>exact absurd h (by omega)
    |12,_=>
     match j,hj with
     |12,_=>exact absurd rfl hne
     |1,_|2,_|3,_|4,_|5,_|6,_|7,_|8,_|9,_|10,_|11,_=>exact absurd (by simp) hna
     |0,_|13,_|14,_=>exact(by obtain⟨g2,o2,c2,h1,h2,h3⟩:=hv;exact⟨g2,o2,c2,h1,h2.go hE,h3⟩)
     |15,_=>exact(by obtain⟨g2,o2,c2,h1,h2,h3,h4⟩:=hv;exact⟨g2,o2,c2,h1,h2.touch hE (fun k _ hs=>⟨.inr hs,fun e=>h3 ((Option.some.inj (show some g2=some k from e)).trans hs)⟩),h3,h4⟩)
     |m+16,h=>exact absurd h (by omega)
    |m+16,h=>exact absurd h (by omega)
   case h0=>intro x;exact toI HIp ⟨(Touch.refl _ _).drew,fun _=>hX3.out,fun _=>HO5.out.go (Below.refl _ _).drew,fun h=>by cases h⟩
   case step=>
    refine⟨?_,?_,?_,?_,?_,?_,?_,?_,?_,?_,?_,?_,?_,?_,?_,?_,trivial⟩
    all_goals
     intro x W L hI hL hV;replace hI:(Touch (fun z=>z=b∨(Value.slice sa1 ns sc1).ownBlock=some z) wr W∧(L 15=false→Blk b (.cells #[.int .i64 l.epoch,.int .i64 nx,.slice sa1 ns sc1,.slice (some ⟨g,off,none⟩) (q'.length+1) qc1,.int .i64 l.heard] 70 (0,0)) W)∧(L 12=false→OwnO (fun z=>z<base∨z=b) base (.slice sa1 ns sc1) s W)∧(L 15=true→∃v',Blk b (.cells #[.int .i64 l.epoch,.int .i64 nx,v',.slice (some ⟨g,off,none⟩) (q'.length+1) qc1,.int .i64 l.heard] 70 (0,0)) W∧OwnO (fun z=>z<base∨z=b) base v' (s++[(⟨fk,fh,fe,fo,ft⟩:Fr)]) W∧(∀k,v'.ownBlock=some k→(Value.slice sa1 ns sc1).ownBlock=some k∨wr.heap.size≤k))):=ofI HIp hI;rw[HV.out]at hV;simp only[AllV,and_true]at hV;dsimp only[fZm,fEm,List.reduceReplicate,List.cons_append,List.nil_append]
    ·clear hV;have HI:=Lib.hid hI;clear hI;go_wp2_with fail;refine step3_done rfl ?_ ?_ ?_
     ·exact(toI HIp HI.out)
     ·exact(Below.refl _ _)
     ·exact(toV HV rfl)
    ·clear hV;have HI:=Lib.hid hI;clear hI;go_wp2_with fail;refine step3_done rfl ?_ ?_ ?_
     ·exact(toI HIp HI.out)
     ·exact(Below.refl _ _)
     ·exact(toV HV rfl)
    ·have u1:=hV;clear hV;simp only[u1];clear u1;have HI:=Lib.hid hI;clear hI;go_wp2_with fail;refine step3_done rfl ?_ ?_ ?_
     ·exact(toI HIp HI.out)
     ·exact(Below.refl _ _)
     ·exact(toV HV rfl)
    ·have u2:=hV;clear hV;simp only[u2];clear u2;have HI:=Lib.hid hI;clear hI;go_wp2_with fail;refine step3_done rfl ?_ ?_ ?_
     ·exact(toI HIp HI.out)
     ·exact(Below.refl _ _)
     ·exact(toV HV rfl)
    ·have u3:=hV;clear hV;simp only[u3];clear u3;have cW:W.cell? ⟨b,2,none⟩=some (.slice sa1 ns sc1):=(hI.2.1 (hL.2 15 (by simp))).cell 2;have HI:=Lib.hid hI;clear hI;go_wp2_with fail;refine step3_done rfl ?_ ?_ ?_
     ·exact(toI HIp HI.out)
     ·exact(Below.refl _ _)
     ·exact(toV HV rfl)
    ·clear hV;have HI:=Lib.hid hI;clear hI;go_wp2_with fail;refine step3_done rfl ?_ ?_ ?_
     ·exact(toI HIp HI.out)
     ·exact(Below.refl _ _)
     ·exact(toV HV rfl)
    ·have u5:=hV;clear hV;simp only[u5];clear u5;have HI:=Lib.hid hI;clear hI;go_wp2_with fail;refine step3_done rfl ?_ ?_ ?_
     ·exact(toI HIp HI.out)
     ·exact(Below.refl _ _)
     ·exact(toV HV rfl)
    ·have u6:=hV;clear hV;simp only[u6];clear u6;have HI:=Lib.hid hI;clear hI;go_wp2_with fail;refine step3_done rfl ?_ ?_ ?_
     ·exact(toI HIp HI.out)
     ·exact(Below.refl _ _)
     ·exact(toV HV rfl)
    ·have u7:=hV;clear hV;simp only[u7];clear u7;have cW:W.cell? ⟨b,3,none⟩=some (.slice (some ⟨g,off,none⟩) (q'.length+1) qc1):=(hI.2.1 (hL.2 15 (by simp))).cell 3;have HI:=Lib.hid hI;clear hI;go_wp2_with fail;refine step3_done rfl ?_ ?_ ?_
     ·exact(toI HIp HI.out)
     ·exact(Below.refl _ _)
     ·exact(toV HV rfl)
    ·have u8:=hV;clear hV;simp only[u8];clear u8;have HI:=Lib.hid hI;have hpos:(0:Int)<((q'.length+1:Nat):Int):=by omega
     clear hI;go_wp2_with fail;refine step3_done rfl ?_ ?_ ?_
     ·exact(toI HIp HI.out)
     ·exact(Below.refl _ _)
     ·exact(toV HV rfl)
    ·have u9:=hV;clear hV;simp only[u9];clear u9;have hgb:W.heap[g]?=wr.heap[g]?:=hI.1.block g hgl (by rintro(h|h);exact hgA3 h;exact HgA4.out h);have e0:W.cell? ⟨g,off,none⟩=some (.int .i64 fk):=(cell_keep hgb).trans d0;have e1:W.cell? ⟨g,off+1,none⟩=some (.int .i64 fh):=(cell_keep hgb).trans d1;have e2:W.cell? ⟨g,off+1+1,none⟩=some (.int .i64 fe):=(cell_keep hgb).trans d2;have e3:W.cell? ⟨g,off+1+1+1,none⟩=some (.slice ak nk ck):=(cell_keep hgb).trans d3;have e4:W.cell? ⟨g,off+1+1+1+1,none⟩=some (.string ft):=(cell_keep hgb).trans d4;have HI:=Lib.hid hI;clear hI hgb;go_wp2_with fail;refine step3_done rfl ?_ ?_ ?_
     ·exact(toI HIp HI.out)
     ·exact(Below.refl _ _)
     ·exact(toV HV rfl)
    ·have u10:=hV;clear hV;simp only[u10];clear u10;have HI:=Lib.hid hI;have HL:=Lib.hid hL;clear hI hL;go_wp2_with fail;obtain⟨i1,i2,i3,i4⟩:=HI.out;have uW:∀o,Below W.heap.size W (W.alloc o):=fun o=>(Below.refl _ _).alloc (Nat.le_refl _) o;have hsz:=i1.size;refine step3_done rfl ?_ ?_ ?_
     ·exact(toI HIp ⟨i1.below (uW _) hsz,fun h=>(i2 h).go (uW _),fun h=>(i3 h).go (uW _),fun h:L 15=true=>absurd ((HL.out.2 15 (by simp)).symm.trans h) (by simp)⟩)
     ·exact(uW _)
     ·exact(toV HV ⟨_,rfl,Blk.new _ _,hsz⟩)
    ·obtain⟨u4,⟨g11,u11,b11,l11⟩⟩:=hV;simp only[u4,u11];have U11:=Lib.hid u11;clear u4 u11;have HI:=Lib.hid hI;have HL:=Lib.hid hL;have B11:=Lib.hid b11;have hO12:=Lib.hid (hI.2.2.1 (hL.2 12 (by simp)));have hz6:=hI.1.size;have hbW:base≤W.heap.size:=by omega
     have Hy:Hid (Rep.rd (fun z=>z<W.heap.size∧¬(fun z=>z<base∨z=b) z∧(Value.slice sa1 ns sc1).ownBlock≠some z) W (⟨fk,fh,fe,fo,ft⟩:Fr) [.int .i64 fk,.int .i64 fh,.int .i64 fe,.slice ak nk ck,.string ft]):=by
      refine⟨ak,nk,ck,rfl,Hrk.out.mono fun z hz=>⟨⟨by omega,?_,by rw[←Hns.out];exact hz.2.2.2⟩,hI.1.block z hz.2.1 ?_⟩,Hfit.out⟩
      ·rintro(h|h)
       ·omega
       ·exact hz.2.2.1 h
      ·rintro(h|h)
       ·exact hz.2.2.1 h
       ·rw[←Hns.out]at h;exact hz.2.2.2 h
     clear hI hL b11;go_wp2_with (at_builtin;refine wpList_append_oneO rfl _ _ _ (by rfl) base 44 i0 _ 64 Tryd.underlying68 Hi.out Hz0.out Hz1.out Hz2.out rfl (.slice sa1 ns sc1) s (by rfl) hO12.out g11 1 _ [.int .i64 fk,.int .i64 fh,.int .i64 fe,.slice ak nk ck,.string ft] (⟨fk,fh,fe,fo,ft⟩:Fr) (by rfl) B11.out Hy.out (by have:=Hns.out;unfold maxLen;omega) (by have:=Hns.out;omega) hbW ?_);intro g2 o2 cap w5 hown5 hgrow hat hlt5;obtain⟨i1,i2,i3,i4⟩:=HI.out;have HP:=Lib.hid (And.intro (i1.grown hgrow (fun k hk=>.inl (.inr hk))) (fun h:L 15=false=>(i2 h).grown hgrow (fun e=>(hwr.out b e.symm).2.2 rfl)));have HG:=Lib.hid hgrow;have H5:=Lib.hid hown5;have H6:Hid (g2≠b):=by
      unfold Hid;intro h;rcases hat with h'|h'
      ·exact(hwr.out _ h').2.2 h
      ·omega
     have H7:Hid ((Value.slice sa1 ns sc1).ownBlock=some g2∨wr.heap.size≤g2):=by
      rcases hat with h'|h'
      ·exact .inl h'
      ·exact .inr (by omega)
     clear i1 i2 i3 i4 hgrow hown5 hat HI;go_wp2_with fail;refine step3_done rfl ?_ ?_ ?_
     ·exact(toI HIp ⟨HP.out.1,HP.out.2,fun h=>absurd h (by simp[setB]),fun h:L 15=true=>absurd ((HL.out.2 15 (by simp)).symm.trans h) (by simp)⟩)
     ·exact HG.out
     ·exact(toV HV ⟨_,_,_,rfl,H5.out,H6.out,H7.out⟩)
    ·have u0:=hV;clear hV;simp only[u0];clear u0;have HI:=Lib.hid hI;clear hI;go_wp2_with fail;refine step3_done rfl ?_ ?_ ?_
     ·exact(toI HIp HI.out)
     ·exact(Below.refl _ _)
     ·exact(toV HV rfl)
    ·have u13:=hV;clear hV;simp only[u13];clear u13;have HI:=Lib.hid hI;clear hI;go_wp2_with fail;refine step3_done rfl ?_ ?_ ?_
     ·exact(toI HIp HI.out)
     ·exact(Below.refl _ _)
     ·exact(toV HV rfl)
    ·obtain⟨⟨g12,o12,c12,u12,w12,n12,t12⟩,u14⟩:=hV;simp only[u12,u14];have U12:=Lib.hid u12;clear u12 u14;have b7:=hI.2.1 (hL.2 15 (by simp));have cW:W.cell? ⟨b,2,none⟩=some (.slice sa1 ns sc1):=b7.cell 2;have fW:=b7.frozen 2;have HI:=Lib.hid hI;have HL:=Lib.hid hL;have B7:=Lib.hid b7;have W12:=Lib.hid w12;have T12:=Lib.hid t12;clear hI hL b7 w12 t12;go_wp2_with fail;obtain⟨i1,i2,i3,i4⟩:=HI.out;have ht:∀u,Touch (fun z=>z=b) W (W.setCell ⟨b,2,none⟩ u):=fun u=>Touch.setCell (S:=fun z=>z=b) (Touch.refl _ _) (.inl rfl) _;have hk12:∀k,(Value.slice (some ⟨g12,o12,none⟩) (s.length+1) c12).ownBlock=some k→(Value.slice sa1 ns sc1).ownBlock=some k∨wr.heap.size≤k:=fun k hk=>by
      obtain rfl:g12=k:=by simpa[Value.ownBlock]using hk
      exact T12.out
     refine step3_done (v:=undef) rfl ?_ ?_ ?_
     ·exact(toI HIp ⟨i1.setCell (.inl (.inl rfl)) _,(fun h=>absurd h (by simp[setB])),fun h:L 12=false=>absurd ((HL.out.1 12 (by simp)).symm.trans h) (by simp),fun _=>⟨_,B7.out.set 2 _,W12.out.touch (ht _) (fun k _ hs=>⟨.inr hs,fun e=>n12 ((Option.some.inj (show some g12=some k from e)).trans hs)⟩),hk12⟩⟩)
     ·exact(ht _)
     ·exact(toV HV rfl)
   case fin=>
    intro x W L hL hI hV;replace hI:(Touch (fun z=>z=b∨(Value.slice sa1 ns sc1).ownBlock=some z) wr W∧(L 15=false→Blk b (.cells #[.int .i64 l.epoch,.int .i64 nx,.slice sa1 ns sc1,.slice (some ⟨g,off,none⟩) (q'.length+1) qc1,.int .i64 l.heard] 70 (0,0)) W)∧(L 12=false→OwnO (fun z=>z<base∨z=b) base (.slice sa1 ns sc1) s W)∧(L 15=true→∃v',Blk b (.cells #[.int .i64 l.epoch,.int .i64 nx,v',.slice (some ⟨g,off,none⟩) (q'.length+1) qc1,.int .i64 l.heard] 70 (0,0)) W∧OwnO (fun z=>z<base∨z=b) base v' (s++[(⟨fk,fh,fe,fo,ft⟩:Fr)]) W∧(∀k,v'.ownBlock=some k→(Value.slice sa1 ns sc1).ownBlock=some k∨wr.heap.size≤k))):=ofI HIp hI;rw[HV.out]at hV;simp only[AllV,and_true]at hV;obtain⟨u0,u1,u2,u3,u4,u5,u6,u7,u8,u9,u10,⟨g11,u11,b11,l11⟩,⟨g12,o12,c12,u12,w12,n12,t12⟩,u13,u14,u15⟩:=hV;simp only[getsD,List.getD_cons_succ,List.getD_cons_zero,List.length_cons,List.length_nil,List.range,List.range.loop,u0,u1,u2,u3,u4,u5,u6,u7,u8,u9,u10,u11,u12,u13,u14,u15,Act.put,List.setIfInBounds_toArray,List.set_cons_succ,List.set_cons_zero];clear u0 u1 u2 u3 u4 u5 u6 u7 u8 u9 u10 u11 u12 u13 u14 u15;clear b11 w12 t12;obtain⟨i1,i2,i3,i4⟩:=hI;obtain⟨v',y1,y2,y3⟩:=i4 (hL 15 (by simp));have k1:W.cell? ⟨b,1,none⟩=some (.int .i64 nx):=y1.cell 1;have k3:W.cell? ⟨b,3,none⟩=some (.slice (some ⟨g,off,none⟩) (q'.length+1) qc1):=y1.cell 3;have kf:=y1.frozen;have hbW:=y1.lt;have Hmv:Hid (∀qv':Value,(∃a' c',qv'=.slice a' q'.length c'∧RdS (fun z=>base≤z∧z<wr.heap.size∧z≠b∧(Value.slice sa1 s.length sc1).ownBlock≠some z) wr q' a' q'.length c')→FillMid base b l sv gk w ((W.setCell ⟨b,3,none⟩ qv').setCell ⟨b,1,none⟩ (.int .i64 (nx+1)))):=by
     rintro qv' ⟨a',c',hq1,hq2⟩;have hF:=HFl2.out;rw[←Hns.out]at hF i1 y3;have hm:=Fl.moved hF i1 y1 y2 y3 (fun a c hac=>by
      injection hac with e1 e2 e3;subst e1 e3;exact⟨a',c',hq1,fun _=>hq2⟩)
     refine⟨s++[(⟨fk,fh,fe,fo,ft⟩:Fr)],q',nx+1,v',qv',Hgk.out,hm,Hnext.out,by omega,by omega,by rw[List.length_append,Hns.out];simp;omega,?_,fun k hk=>?_,fun x hx=>HO.out x (by simpa using hx)⟩
     ·have t1:Touch (fun z=>z=b∨sv.ownBlock=some z) w W:=by
       refine HT.out.then_ i1 (fun z hz hs=>?_);rcases hs with hs|hs
       ·exact .inl hs
       ·rcases HR.out z hs with h|h
        ·exact .inr h
        ·omega
      exact(t1.setCell (.inl (.inl rfl)) _).setCell (.inl (.inl rfl)) _
     ·rcases y3 k hk with h|h
      ·exact HR.out k h
      ·exact .inr (by omega)
    have Hq2:=Lib.hid (RdS.tail Hqt);clear i1 i2 i3 i4 y1 y2 y3 hL;by_cases hc1:1<qc1
    ·have Hm:=Lib.hid (Hmv.out (.slice (some ⟨g,off+5,none⟩) q'.length (qc1-1)) ⟨_,_,rfl,Hq2.out.1 hc1⟩);clear Hmv Hq2;go_wp2_with fail
     go_roundg gk
     case measure=>omega
     case rel=>exact Hm.out
    ·have hc1':qc1=1:=by omega
     obtain⟨hq1,hq2⟩:=Hq2.out.2 hc1';subst hq1 hc1';have Hm:=Lib.hid (Hmv.out (.slice (some ⟨g,off,none⟩) 0 0) ⟨_,_,rfl,RdS.empty' _ _ _⟩);simp only[List.length_nil]at k3;clear Hmv Hq2 hq2;go_wp2_with fail
     go_roundg gk
     case measure=>omega
     case rel=>exact Hm.out
  ·have hwhy2:q.length=0∨(0<q.length∧¬s.length<8)∨(0<q.length∧s.length<8∧¬nx<1048576):=by
    rcases hwhy with h|h|h
    ·exact .inl (by rw[h];rfl)
    ·exact .inr (.inl h)
    ·exact .inr (.inr h)
   obtain⟨nq,hnq⟩:∃nq,q.length=nq:=⟨_,rfl⟩;rw[hnq]at c3 hwhy2;clear hnq hwhy;rcases hwhy2 with hwy|⟨hwy,hwz2⟩|⟨hwy,hwz2,hwz3⟩
   ·subst hwy;have hwhy:=hwz;have hfil:l.filled=⟨l.epoch,nx,s,q,l.heard⟩:=by unfold Lk.filled;rw[←HE.out,hend]
    have hmo:=Hmore.out;have hop2:=Hops.out;rw[←HE.out,hend]at hmo hop2;simp only at hmo hop2;obtain⟨w2,rfl⟩:∃x:World,x=wr:=⟨_,rfl⟩;rw[hfil]at Hpost;have Hop2:=Lib.hid hop2;have Hhe:=hhe;clear hend HE Hmore Hops hop2 hfil hwhy hsm hqm hqf HQ;obtain⟨n0,hn0⟩:∃n0,l.sent.length=n0:=⟨_,rfl⟩;rw[hn0]at Hpost hmo⊢;clear hn0;have HFl2:=HFl;have H20:Hid (Own (fun z=>z<w2.heap.size) w2.heap.size 46 (.slice none 0 0) (((⟨l.epoch,nx,s,q,l.heard⟩:Lk).pks n0).take 0) w2):=Own.nil;go_wp2_with fail;go_loopw [4,5] (fun v ix wr=>∃(j:Nat),ix=.int .i64 ((n0+j:Nat):Int)∧n0+j≤s.length∧Own (fun z=>z<w2.heap.size) w2.heap.size 46 v (((⟨l.epoch,nx,s,q,l.heard⟩:Lk).pks n0).take j) wr∧Below w2.heap.size w2 wr) (fun _ ix _=>s.length-(intOf ix).toNat)
    case atStart=>exact⟨0,rfl,hmo,H20.out,Below.refl _ _⟩
    case round=>
     obtain⟨j,rfl,hj,hown,hb⟩:=hrel;obtain⟨va,vc,rfl⟩:=hown.form;clear H20 c0 c1 c2 c3 c4 cf;have hF:=HFl.out.go hb;obtain⟨c0,c1,c2,c3,c4⟩:=blk_cells5 hF.box;simp only at c0 c1 c2 c3 c4;have HF:=Lib.hid hF;have HB:=Lib.hid hb;have HO2:=Lib.hid hown;have hzr:=hb.size;have hbl2:=hF.box.lt;clear hF hb;by_cases hlt:n0+j<s.length
     ·have hd:decide (((n0+j:Nat):Int)<(s.length:Int))=true:=decide_eq_true (by omega);obtain⟨sa',sc',hsx,hsr⟩:=HF.out.sent.rd (A:=(· <wr.heap.size)) (fun z hz _=>hz) (fun k hk=>(HF.out.sent.rowlt k hk).2);simp only at hsx hsr;injection hsx with hs1 hs2 hs3;subst hs1 hs3;obtain⟨g,off,hga,-,-,hcs⟩:=hsr.frame (by omega);obtain⟨-,-,-,-,hfit,-⟩:=hcs (n0+j) hlt;have hpk:((⟨l.epoch,nx,s,q,l.heard⟩:Lk).pk (n0+j))=⟨l.epoch,nx-s.length+((n0+j:Nat):Int),false,l.heard,s[n0+j]⟩:=by
       unfold Lk.pk;simp only;congr 1;simp[List.getD,hlt]
      have HPk:=Lib.hid (packet_go' (⟨l.epoch,nx,s,q,l.heard⟩:Lk) (n0+j) sa1 qa1 s.length sc1 q.length qc1 wr hsr hlt (by omega) (by show 0≤nx;omega) (by show nx≤2097152;omega) (fun g hg=>Hop2.out g hg));have Hnx:=Lib.hid (pks_next (⟨l.epoch,nx,s,q,l.heard⟩:Lk) n0 j hlt);rw[hpk]at HPk Hnx;have Hfit:Hid (I64 l.epoch∧I64 (nx-s.length+((n0+j:Nat):Int))∧I64 l.heard∧(s[n0+j]).fits):=⟨Hhe.out.1,⟨by omega,by omega⟩,Hhe.out.2,hfit⟩;have Hlen:Hid ((((⟨l.epoch,nx,s,q,l.heard⟩:Lk).pks n0).take j).length=j):=by unfold Hid;rw[List.length_take,pks_len];simp only;omega
      generalize (((⟨l.epoch,nx,s,q,l.heard⟩:Lk).pks n0).take j)=pk0 at*;generalize s[n0+j]=f at*;obtain⟨nu,hnu⟩:∃nu,nx-s.length+((n0+j:Nat):Int)=nu:=⟨_,rfl⟩;rw[hnu]at HPk Hnx Hfit;clear hpk hcs hfit hsr hga hnu hown;obtain⟨fk,fh,fe,fo,ft⟩:=f;go_wp2_with fail;refine HPk.out.mono ?_;rintro e w3 ⟨a3,cp3,rfl,r3,u3⟩;simp only at r3⊢;have HO3:=Lib.hid (HO2.out.go u3);have hz3:=u3.size;have hrow2:=fun k hk=>HO2.out.rowlt k hk;have HB3:=Lib.hid (up HB.out u3);have hal:Below w3.heap.size w3 (w3.alloc (.cells #[.int .i64 l.epoch,.int .i64 nu,.bool false,.int .i64 l.heard,.int .i64 fk,.int .i64 fh,.int .i64 fe,.slice a3 fo.length cp3,.string ft] 46)):=(Below.refl _ _).alloc (Nat.le_refl _) _;have Hy:Hid (Rep.rd (fun z=>z<(w3.alloc (.cells #[.int .i64 l.epoch,.int .i64 nu,.bool false,.int .i64 l.heard,.int .i64 fk,.int .i64 fh,.int .i64 fe,.slice a3 fo.length cp3,.string ft] 46)).heap.size∧¬(fun z=>z<w2.heap.size) z∧(Value.slice va pk0.length vc).ownBlock≠some z) (w3.alloc (.cells #[.int .i64 l.epoch,.int .i64 nu,.bool false,.int .i64 l.heard,.int .i64 fk,.int .i64 fh,.int .i64 fe,.slice a3 fo.length cp3,.string ft] 46)) (⟨l.epoch,nu,false,l.heard,⟨fk,fh,fe,fo,ft⟩⟩:Pkt) [.int .i64 l.epoch,.int .i64 nu,.bool false,.int .i64 l.heard,.int .i64 fk,.int .i64 fh,.int .i64 fe,.slice a3 fo.length cp3,.string ft]):=
       ⟨a3,fo.length,cp3,rfl,r3.mono fun z hz=>⟨⟨by simp;omega,by omega,fun e=>by have:=hrow2 z e;omega⟩,hal.block z hz.2⟩,Hfit.out⟩
      have HO4:=Lib.hid (HO3.out.go hal);have HB4:=Lib.hid (up HB3.out hal);have hz4:(w3.alloc (.cells #[.int .i64 l.epoch,.int .i64 nu,.bool false,.int .i64 l.heard,.int .i64 fk,.int .i64 fh,.int .i64 fe,.slice a3 fo.length cp3,.string ft] 46)).heap.size=w3.heap.size+1:=by simp
      have HNew:=Lib.hid (Blk.new w3 (.cells #[.int .i64 l.epoch,.int .i64 nu,.bool false,.int .i64 l.heard,.int .i64 fk,.int .i64 fh,.int .i64 fe,.slice a3 fo.length cp3,.string ft] 46));have Hz4:=Lib.hid hz4;clear u3 r3 HPk hal HO3 HB3 hz4;go_wp2_with (at_builtin;go_must (refine wpList_append_one rfl _ _ _ (by rfl) w2.heap.size 46 j0 _ 96 Tryd.underlying107 Ji.out Jz0.out Jz1.out Jz2.out rfl (.slice va pk0.length vc) pk0 (by rfl) HO4.out w3.heap.size 1 _ [.int .i64 l.epoch,.int .i64 nu,.bool false,.int .i64 l.heard,.int .i64 fk,.int .i64 fh,.int .i64 fe,.slice a3 fo.length cp3,.string ft] (⟨l.epoch,nu,false,l.heard,⟨fk,fh,fe,fo,ft⟩⟩:Pkt) (by rfl) HNew.out Hy.out (by have:=Hlen.out;unfold maxLen;omega) (by have:=Hlen.out;omega) (by have:=Hz4.out;omega) ?_));intro g2 cap w5 hown5 hgrow hat hlt5;have hb5:=HB4.out.grown hgrow (by have:=Hz4.out;omega) (fun k hk=>(hrow2 k hk).1);have HP:=Lib.hid (And.intro hown5 hb5);have hlen:=Hlen.out;clear hown5 hgrow hat hb5 HO4 HB4 HNew Hy Hz4;go_wp2_with fail;go_roundw
      case rel=>exact⟨j+1,by go_num,by omega,by rw[Hnx.out];exact HP.out.1,HP.out.2⟩
      case measure=>simp[intOf];omega
     ·have hd:decide (((n0+j:Nat):Int)<(s.length:Int))=false:=decide_eq_false (by omega);have htk:(((⟨l.epoch,nx,s,q,l.heard⟩:Lk).pks n0).take j)=(⟨l.epoch,nx,s,q,l.heard⟩:Lk).pks n0:=List.take_of_length_le (by rw[pks_len];simp only;omega);generalize (((⟨l.epoch,nx,s,q,l.heard⟩:Lk).pks n0).take j)=pk0 at*;rw[←htk]at Hpost;have G:=Lib.hid (Hpost.out w2 va vc _ _ wr hown HFl.out HB.out hwz (HT.out.below HB.out hwz) (fun k hk=>HR.out k hk));clear hown HO2 htk Hpost;generalize pk0.length=np at*;go_wp2_with fail;exact G.out
   ·have hd1:decide ((0:Int)<(nq:Int))=true:=decide_eq_true (by omega);have hd2:decide ((s.length:Int)<8)=false:=decide_eq_false (by omega);have hwhy:=hwz;have hfil:l.filled=⟨l.epoch,nx,s,q,l.heard⟩:=by unfold Lk.filled;rw[←HE.out,hend]
    have hmo:=Hmore.out;have hop2:=Hops.out;rw[←HE.out,hend]at hmo hop2;simp only at hmo hop2;obtain⟨w2,rfl⟩:∃x:World,x=wr:=⟨_,rfl⟩;rw[hfil]at Hpost;have Hop2:=Lib.hid hop2;have Hhe:=hhe;clear hend HE Hmore Hops hop2 hfil hwhy hsm hqm hqf HQ;obtain⟨n0,hn0⟩:∃n0,l.sent.length=n0:=⟨_,rfl⟩;rw[hn0]at Hpost hmo⊢;clear hn0;have HFl2:=HFl;have H20:Hid (Own (fun z=>z<w2.heap.size) w2.heap.size 46 (.slice none 0 0) (((⟨l.epoch,nx,s,q,l.heard⟩:Lk).pks n0).take 0) w2):=Own.nil;go_wp2_with fail;go_loopw [4,5] (fun v ix wr=>∃(j:Nat),ix=.int .i64 ((n0+j:Nat):Int)∧n0+j≤s.length∧Own (fun z=>z<w2.heap.size) w2.heap.size 46 v (((⟨l.epoch,nx,s,q,l.heard⟩:Lk).pks n0).take j) wr∧Below w2.heap.size w2 wr) (fun _ ix _=>s.length-(intOf ix).toNat)
    case atStart=>exact⟨0,rfl,hmo,H20.out,Below.refl _ _⟩
    case round=>
     obtain⟨j,rfl,hj,hown,hb⟩:=hrel;obtain⟨va,vc,rfl⟩:=hown.form;clear H20 c0 c1 c2 c3 c4 cf;have hF:=HFl.out.go hb;obtain⟨c0,c1,c2,c3,c4⟩:=blk_cells5 hF.box;simp only at c0 c1 c2 c3 c4;have HF:=Lib.hid hF;have HB:=Lib.hid hb;have HO2:=Lib.hid hown;have hzr:=hb.size;have hbl2:=hF.box.lt;clear hF hb;by_cases hlt:n0+j<s.length
     ·have hd:decide (((n0+j:Nat):Int)<(s.length:Int))=true:=decide_eq_true (by omega);obtain⟨sa',sc',hsx,hsr⟩:=HF.out.sent.rd (A:=(· <wr.heap.size)) (fun z hz _=>hz) (fun k hk=>(HF.out.sent.rowlt k hk).2);simp only at hsx hsr;injection hsx with hs1 hs2 hs3;subst hs1 hs3;obtain⟨g,off,hga,-,-,hcs⟩:=hsr.frame (by omega);obtain⟨-,-,-,-,hfit,-⟩:=hcs (n0+j) hlt;have hpk:((⟨l.epoch,nx,s,q,l.heard⟩:Lk).pk (n0+j))=⟨l.epoch,nx-s.length+((n0+j:Nat):Int),false,l.heard,s[n0+j]⟩:=by
       unfold Lk.pk;simp only;congr 1;simp[List.getD,hlt]
      have HPk:=Lib.hid (packet_go' (⟨l.epoch,nx,s,q,l.heard⟩:Lk) (n0+j) sa1 qa1 s.length sc1 q.length qc1 wr hsr hlt (by omega) (by show 0≤nx;omega) (by show nx≤2097152;omega) (fun g hg=>Hop2.out g hg));have Hnx:=Lib.hid (pks_next (⟨l.epoch,nx,s,q,l.heard⟩:Lk) n0 j hlt);rw[hpk]at HPk Hnx;have Hfit:Hid (I64 l.epoch∧I64 (nx-s.length+((n0+j:Nat):Int))∧I64 l.heard∧(s[n0+j]).fits):=⟨Hhe.out.1,⟨by omega,by omega⟩,Hhe.out.2,hfit⟩;have Hlen:Hid ((((⟨l.epoch,nx,s,q,l.heard⟩:Lk).pks n0).take j).length=j):=by unfold Hid;rw[List.length_take,pks_len];simp only;omega
      generalize (((⟨l.epoch,nx,s,q,l.heard⟩:Lk).pks n0).take j)=pk0 at*;generalize s[n0+j]=f at*;obtain⟨nu,hnu⟩:∃nu,nx-s.length+((n0+j:Nat):Int)=nu:=⟨_,rfl⟩;rw[hnu]at HPk Hnx Hfit;clear hpk hcs hfit hsr hga hnu hown;obtain⟨fk,fh,fe,fo,ft⟩:=f;go_wp2_with fail;refine HPk.out.mono ?_;rintro e w3 ⟨a3,cp3,rfl,r3,u3⟩;simp only at r3⊢;have HO3:=Lib.hid (HO2.out.go u3);have hz3:=u3.size;have hrow2:=fun k hk=>HO2.out.rowlt k hk;have HB3:=Lib.hid (up HB.out u3);have hal:Below w3.heap.size w3 (w3.alloc (.cells #[.int .i64 l.epoch,.int .i64 nu,.bool false,.int .i64 l.heard,.int .i64 fk,.int .i64 fh,.int .i64 fe,.slice a3 fo.length cp3,.string ft] 46)):=(Below.refl _ _).alloc (Nat.le_refl _) _;have Hy:Hid (Rep.rd (fun z=>z<(w3.alloc (.cells #[.int .i64 l.epoch,.int .i64 nu,.bool false,.int .i64 l.heard,.int .i64 fk,.int .i64 fh,.int .i64 fe,.slice a3 fo.length cp3,.string ft] 46)).heap.size∧¬(fun z=>z<w2.heap.size) z∧(Value.slice va pk0.length vc).ownBlock≠some z) (w3.alloc (.cells #[.int .i64 l.epoch,.int .i64 nu,.bool false,.int .i64 l.heard,.int .i64 fk,.int .i64 fh,.int .i64 fe,.slice a3 fo.length cp3,.string ft] 46)) (⟨l.epoch,nu,false,l.heard,⟨fk,fh,fe,fo,ft⟩⟩:Pkt) [.int .i64 l.epoch,.int .i64 nu,.bool false,.int .i64 l.heard,.int .i64 fk,.int .i64 fh,.int .i64 fe,.slice a3 fo.length cp3,.string ft]):=
       ⟨a3,fo.length,cp3,rfl,r3.mono fun z hz=>⟨⟨by simp;omega,by omega,fun e=>by have:=hrow2 z e;omega⟩,hal.block z hz.2⟩,Hfit.out⟩
      have HO4:=Lib.hid (HO3.out.go hal);have HB4:=Lib.hid (up HB3.out hal);have hz4:(w3.alloc (.cells #[.int .i64 l.epoch,.int .i64 nu,.bool false,.int .i64 l.heard,.int .i64 fk,.int .i64 fh,.int .i64 fe,.slice a3 fo.length cp3,.string ft] 46)).heap.size=w3.heap.size+1:=by simp
      have HNew:=Lib.hid (Blk.new w3 (.cells #[.int .i64 l.epoch,.int .i64 nu,.bool false,.int .i64 l.heard,.int .i64 fk,.int .i64 fh,.int .i64 fe,.slice a3 fo.length cp3,.string ft] 46));have Hz4:=Lib.hid hz4;clear u3 r3 HPk hal HO3 HB3 hz4;go_wp2_with (at_builtin;go_must (refine wpList_append_one rfl _ _ _ (by rfl) w2.heap.size 46 j0 _ 96 Tryd.underlying107 Ji.out Jz0.out Jz1.out Jz2.out rfl (.slice va pk0.length vc) pk0 (by rfl) HO4.out w3.heap.size 1 _ [.int .i64 l.epoch,.int .i64 nu,.bool false,.int .i64 l.heard,.int .i64 fk,.int .i64 fh,.int .i64 fe,.slice a3 fo.length cp3,.string ft] (⟨l.epoch,nu,false,l.heard,⟨fk,fh,fe,fo,ft⟩⟩:Pkt) (by rfl) HNew.out Hy.out (by have:=Hlen.out;unfold maxLen;omega) (by have:=Hlen.out;omega) (by have:=Hz4.out;omega) ?_));intro g2 cap w5 hown5 hgrow hat hlt5;have hb5:=HB4.out.grown hgrow (by have:=Hz4.out;omega) (fun k hk=>(hrow2 k hk).1);have HP:=Lib.hid (And.intro hown5 hb5);have hlen:=Hlen.out;clear hown5 hgrow hat hb5 HO4 HB4 HNew Hy Hz4;go_wp2_with fail;go_roundw
      case rel=>exact⟨j+1,by go_num,by omega,by rw[Hnx.out];exact HP.out.1,HP.out.2⟩
      case measure=>simp[intOf];omega
     ·have hd:decide (((n0+j:Nat):Int)<(s.length:Int))=false:=decide_eq_false (by omega);have htk:(((⟨l.epoch,nx,s,q,l.heard⟩:Lk).pks n0).take j)=(⟨l.epoch,nx,s,q,l.heard⟩:Lk).pks n0:=List.take_of_length_le (by rw[pks_len];simp only;omega);generalize (((⟨l.epoch,nx,s,q,l.heard⟩:Lk).pks n0).take j)=pk0 at*;rw[←htk]at Hpost;have G:=Lib.hid (Hpost.out w2 va vc _ _ wr hown HFl.out HB.out hwz (HT.out.below HB.out hwz) (fun k hk=>HR.out k hk));clear hown HO2 htk Hpost;generalize pk0.length=np at*;go_wp2_with fail;exact G.out
   ·have hd1:decide ((0:Int)<(nq:Int))=true:=decide_eq_true (by omega);have hd2:decide ((s.length:Int)<8)=true:=decide_eq_true (by omega);have hd3:decide (nx<1048576)=false:=decide_eq_false (by omega);have hwhy:=hwz;have hfil:l.filled=⟨l.epoch,nx,s,q,l.heard⟩:=by unfold Lk.filled;rw[←HE.out,hend]
    have hmo:=Hmore.out;have hop2:=Hops.out;rw[←HE.out,hend]at hmo hop2;simp only at hmo hop2;obtain⟨w2,rfl⟩:∃x:World,x=wr:=⟨_,rfl⟩;rw[hfil]at Hpost;have Hop2:=Lib.hid hop2;have Hhe:=hhe;clear hend HE Hmore Hops hop2 hfil hwhy hsm hqm hqf HQ;obtain⟨n0,hn0⟩:∃n0,l.sent.length=n0:=⟨_,rfl⟩;rw[hn0]at Hpost hmo⊢;clear hn0;have HFl2:=HFl;have H20:Hid (Own (fun z=>z<w2.heap.size) w2.heap.size 46 (.slice none 0 0) (((⟨l.epoch,nx,s,q,l.heard⟩:Lk).pks n0).take 0) w2):=Own.nil;go_wp2_with fail;go_loopw [4,5] (fun v ix wr=>∃(j:Nat),ix=.int .i64 ((n0+j:Nat):Int)∧n0+j≤s.length∧Own (fun z=>z<w2.heap.size) w2.heap.size 46 v (((⟨l.epoch,nx,s,q,l.heard⟩:Lk).pks n0).take j) wr∧Below w2.heap.size w2 wr) (fun _ ix _=>s.length-(intOf ix).toNat)
    case atStart=>exact⟨0,rfl,hmo,H20.out,Below.refl _ _⟩
    case round=>
     obtain⟨j,rfl,hj,hown,hb⟩:=hrel;obtain⟨va,vc,rfl⟩:=hown.form;clear H20 c0 c1 c2 c3 c4 cf;have hF:=HFl.out.go hb;obtain⟨c0,c1,c2,c3,c4⟩:=blk_cells5 hF.box;simp only at c0 c1 c2 c3 c4;have HF:=Lib.hid hF;have HB:=Lib.hid hb;have HO2:=Lib.hid hown;have hzr:=hb.size;have hbl2:=hF.box.lt;clear hF hb;by_cases hlt:n0+j<s.length
     ·have hd:decide (((n0+j:Nat):Int)<(s.length:Int))=true:=decide_eq_true (by omega);obtain⟨sa',sc',hsx,hsr⟩:=HF.out.sent.rd (A:=(· <wr.heap.size)) (fun z hz _=>hz) (fun k hk=>(HF.out.sent.rowlt k hk).2);simp only at hsx hsr;injection hsx with hs1 hs2 hs3;subst hs1 hs3;obtain⟨g,off,hga,-,-,hcs⟩:=hsr.frame (by omega);obtain⟨-,-,-,-,hfit,-⟩:=hcs (n0+j) hlt;have hpk:((⟨l.epoch,nx,s,q,l.heard⟩:Lk).pk (n0+j))=⟨l.epoch,nx-s.length+((n0+j:Nat):Int),false,l.heard,s[n0+j]⟩:=by
       unfold Lk.pk;simp only;congr 1;simp[List.getD,hlt]
      have HPk:=Lib.hid (packet_go' (⟨l.epoch,nx,s,q,l.heard⟩:Lk) (n0+j) sa1 qa1 s.length sc1 q.length qc1 wr hsr hlt (by omega) (by show 0≤nx;omega) (by show nx≤2097152;omega) (fun g hg=>Hop2.out g hg));have Hnx:=Lib.hid (pks_next (⟨l.epoch,nx,s,q,l.heard⟩:Lk) n0 j hlt);rw[hpk]at HPk Hnx;have Hfit:Hid (I64 l.epoch∧I64 (nx-s.length+((n0+j:Nat):Int))∧I64 l.heard∧(s[n0+j]).fits):=⟨Hhe.out.1,⟨by omega,by omega⟩,Hhe.out.2,hfit⟩;have Hlen:Hid ((((⟨l.epoch,nx,s,q,l.heard⟩:Lk).pks n0).take j).length=j):=by unfold Hid;rw[List.length_take,pks_len];simp only;omega
      generalize (((⟨l.epoch,nx,s,q,l.heard⟩:Lk).pks n0).take j)=pk0 at*;generalize s[n0+j]=f at*;obtain⟨nu,hnu⟩:∃nu,nx-s.length+((n0+j:Nat):Int)=nu:=⟨_,rfl⟩;rw[hnu]at HPk Hnx Hfit;clear hpk hcs hfit hsr hga hnu hown;obtain⟨fk,fh,fe,fo,ft⟩:=f;go_wp2_with fail;refine HPk.out.mono ?_;rintro e w3 ⟨a3,cp3,rfl,r3,u3⟩;simp only at r3⊢;have HO3:=Lib.hid (HO2.out.go u3);have hz3:=u3.size;have hrow2:=fun k hk=>HO2.out.rowlt k hk;have HB3:=Lib.hid (up HB.out u3);have hal:Below w3.heap.size w3 (w3.alloc (.cells #[.int .i64 l.epoch,.int .i64 nu,.bool false,.int .i64 l.heard,.int .i64 fk,.int .i64 fh,.int .i64 fe,.slice a3 fo.length cp3,.string ft] 46)):=(Below.refl _ _).alloc (Nat.le_refl _) _;have Hy:Hid (Rep.rd (fun z=>z<(w3.alloc (.cells #[.int .i64 l.epoch,.int .i64 nu,.bool false,.int .i64 l.heard,.int .i64 fk,.int .i64 fh,.int .i64 fe,.slice a3 fo.length cp3,.string ft] 46)).heap.size∧¬(fun z=>z<w2.heap.size) z∧(Value.slice va pk0.length vc).ownBlock≠some z) (w3.alloc (.cells #[.int .i64 l.epoch,.int .i64 nu,.bool false,.int .i64 l.heard,.int .i64 fk,.int .i64 fh,.int .i64 fe,.slice a3 fo.length cp3,.string ft] 46)) (⟨l.epoch,nu,false,l.heard,⟨fk,fh,fe,fo,ft⟩⟩:Pkt) [.int .i64 l.epoch,.int .i64 nu,.bool false,.int .i64 l.heard,.int .i64 fk,.int .i64 fh,.int .i64 fe,.slice a3 fo.length cp3,.string ft]):=
       ⟨a3,fo.length,cp3,rfl,r3.mono fun z hz=>⟨⟨by simp;omega,by omega,fun e=>by have:=hrow2 z e;omega⟩,hal.block z hz.2⟩,Hfit.out⟩
      have HO4:=Lib.hid (HO3.out.go hal);have HB4:=Lib.hid (up HB3.out hal);have hz4:(w3.alloc (.cells #[.int .i64 l.epoch,.int .i64 nu,.bool false,.int .i64 l.heard,.int .i64 fk,.int .i64 fh,.int .i64 fe,.slice a3 fo.length cp3,.string ft] 46)).heap.size=w3.heap.size+1:=by simp
      have HNew:=Lib.hid (Blk.new w3 (.cells #[.int .i64 l.epoch,.int .i64 nu,.bool false,.int .i64 l.heard,.int .i64 fk,.int .i64 fh,.int .i64 fe,.slice a3 fo.length cp3,.string ft] 46));have Hz4:=Lib.hid hz4;clear u3 r3 HPk hal HO3 HB3 hz4;go_wp2_with (at_builtin;go_must (refine wpList_append_one rfl _ _ _ (by rfl) w2.heap.size 46 j0 _ 96 Tryd.underlying107 Ji.out Jz0.out Jz1.out Jz2.out rfl (.slice va pk0.length vc) pk0 (by rfl) HO4.out w3.heap.size 1 _ [.int .i64 l.epoch,.int .i64 nu,.bool false,.int .i64 l.heard,.int .i64 fk,.int .i64 fh,.int .i64 fe,.slice a3 fo.length cp3,.string ft] (⟨l.epoch,nu,false,l.heard,⟨fk,fh,fe,fo,ft⟩⟩:Pkt) (by rfl) HNew.out Hy.out (by have:=Hlen.out;unfold maxLen;omega) (by have:=Hlen.out;omega) (by have:=Hz4.out;omega) ?_));intro g2 cap w5 hown5 hgrow hat hlt5;have hb5:=HB4.out.grown hgrow (by have:=Hz4.out;omega) (fun k hk=>(hrow2 k hk).1);have HP:=Lib.hid (And.intro hown5 hb5);have hlen:=Hlen.out;clear hown5 hgrow hat hb5 HO4 HB4 HNew Hy Hz4;go_wp2_with fail;go_roundw
      case rel=>exact⟨j+1,by go_num,by omega,by rw[Hnx.out];exact HP.out.1,HP.out.2⟩
      case measure=>simp[intOf];omega
     ·have hd:decide (((n0+j:Nat):Int)<(s.length:Int))=false:=decide_eq_false (by omega);have htk:(((⟨l.epoch,nx,s,q,l.heard⟩:Lk).pks n0).take j)=(⟨l.epoch,nx,s,q,l.heard⟩:Lk).pks n0:=List.take_of_length_le (by rw[pks_len];simp only;omega);generalize (((⟨l.epoch,nx,s,q,l.heard⟩:Lk).pks n0).take j)=pk0 at*;rw[←htk]at Hpost;have G:=Lib.hid (Hpost.out w2 va vc _ _ wr hown HFl.out HB.out hwz (HT.out.below HB.out hwz) (fun k hk=>HR.out k hk));clear hown HO2 htk Hpost;generalize pk0.length=np at*;go_wp2_with fail;exact G.out
theorem fill_any (base b:Nat)(l:Lk)(sv qv:Value)(w:World)(h:Fl base b l sv qv w)(h1:1≤l.next)(h2:l.next≤1048576)(hs:l.sent.length≤1048576)(hq:l.queue.length≤1048600)(hls:∀g∈l.sent++l.queue,g.op.length≤1000000000)(hhe0:I64 l.epoch∧I64 l.heard):
 Calls Tryd.prog 86 #[.pointer (some ⟨b,0,none⟩)] w (FillP base b l sv w):=(fill_own base b l sv qv w h h1 h2 hs hq hls hhe0).mono fun _ _ h=>h.p
end Go.Proofs.YtkbfhgcjimfgkaaDoor
