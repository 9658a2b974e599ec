import Derived.Test.YtmlmfpikncogpaaGreatL08
namespace Go.Proofs.YtmlmfpikncogpaaGreat
open Go.RowKit
set_option linter.unusedSimpArgs false
set_option linter.unusedVariables false
set_option maxRecDepth 100000
set_option maxHeartbeats 16000000
theorem vU (w:World) (v:Val) (g:v.ok) (r:List UInt8) (d:r.length<=1000000):Calls Tryz.prog 147 #[.string (str (cP v++r))] w fun e w'=>e=.returned (.tuple #[.agg #[I v.k,I v.n,.string v.s],I (((cP v).length:Nat):Int)])/\Z (aa [] w w'):=by
 obtain⟨k,m,s⟩:=v;unfold cP;rcases g with ⟨rfl,rfl,rfl⟩ | ⟨rfl,b,rfl⟩ | ⟨rfl,rfl,f,c⟩
 ·exact sX w r
 ·have:=vT w m b r;rw[if_pos rfl,D3,Dj,Cod.ag];exact this
 have h:s.data.toList.length=s.size:=rfl;have a:=sW w s.data.toList c (by dsimp only at f;omega) r d;rw[if_neg (by simp),if_pos rfl,D3,Dd,Dj,CU];exact a
theorem wB {l:List Val} {j:Nat} {v:Val} (h:l[j]? =some v):ca (l.drop j)=cP v++ca (l.drop (j+1)):=by
 obtain⟨a,rfl⟩:=CV.1 h;rw[DP a];rfl
theorem ij:∀(a b:List Val),bz (a++b)=bz a++bz b
 | [],b=>rfl
 | v::a,b=>by
  show _::_::_::bz (a++b)=_::_::_::(bz a++bz b);rw[ij]
theorem sU {l:List Val} {j:Nat} {v:Val} (h:l[j]? =some v):bz (l.take (j+1))=bz (l.take j)++[I v.k,I v.n,.string v.s]:=by
 rw[Dq,h,ij];rfl
def uW (w:World) (l:List Val) (e:Ending) (w':World):Prop:=∃A n c,e=.returned (.tuple #[.slice A n c,I 0])/\l.length=n/\Z (ah w' [] A l)/\Z (lj w.heap.size A)/\Z (aa [] w w')
theorem th (w:World) (A:Option Addr) (l:List Val) (n c:Nat) (hB:Bts w A (ca l)) (hn:(ca l).length=n) (hv:∀v∈l,v.ok) (hl:l.length<=10000):
 Calls Tryz.prog 122 #[.slice A n c] w (uW w l):=by
  obtain⟨i0,hi,F,H,J⟩:=info_parts jP;replace hi:=bZ hi;replace F:=bZ F;replace H:=bZ H;replace J:=bZ J;replace hB:=bZ hB;replace hv:=bZ hv;replace hn:=bZ hn;obtain⟨m,i⟩:∃m,m=l.length:=⟨_,rfl⟩;rw[<-i] at hl;replace i:=bZ i;go_enter Tryz.func122,Tryz.ntmps122;go_wp2_with (refine br rfl 79 9 (.tmp 8) rfl 5 Tryz.underlying79 Tryz.underlying5 Tryz.underlying9 A (ca l) n c rfl hn.o hB.o ?_);go_loopw [4,5] (fun rv sv wr=>∃j:Nat,j<=m/\sv=.string (str (ca (l.drop j)))/\Z (wr.ownsRow w.heap.size 60 3 rv j (bz (l.take j)))/\Z (aa [] w wr)) (fun _ sv _=>(match sv with | .string s=>s.size | _=>0))
  case atStart=>exact⟨0,C3 _,rfl,bZ ⟨by simp[bz],.inl ⟨rfl,rfl⟩⟩,bZ (aa.refl _ _)⟩
  obtain⟨j,hj,rfl,E,hk⟩:=hrel;by_cases ac:j<m
  ·obtain⟨v,y⟩:∃v,l[j]? =some v:=⟨_,CT (by rw[<-i.o];exact ac)⟩;have z:=hv.o v (CW y);have a0:=gM z;have N:=wB y;obtain⟨r,hr⟩:∃r,r=ca (l.drop (j+1)):=⟨_,rfl⟩;rw[<-hr] at N;have b0:r.length<=1000000:=by
    have h1:=(fF (l.drop (j+1)) (fun x hx=>hv.o x (Ef hx))).2;rw[<-hr,Da,<-i.o] at h1;omega
   obtain⟨q,hq⟩:∃q,q=(cP v).length:=⟨_,rfl⟩;have T:Z (∀W,Calls Tryz.prog 147 #[.string (str (cP v++r))] W fun e w'=>e=.returned (.tuple #[.agg #[I v.k,I v.n,.string v.s],I (q:Int)])/\Z (aa [] W w')):=bZ (fun W=>by rw[hq];exact vU W v z r b0);have a6:Z (∀W,Calls Tryz.prog 76 #[.agg #[I v.k,I v.n,.string v.s]] W fun e w'=>e=.returned (.bool true)/\Z (aa [] W w')):=bZ (fun W=>eV W v z);have a7:=bZ (sU y);have b6:¬(q:Int)=0:=by omega
   have b7:¬q=0:=by omega
   have p:(str (cP v++r)).size=q+r.length:=by rw[gu,CU,hq]
   have ar:q<=(str (cP v++r)).size:=by omega
   have ap:(q:Int)<=((str (cP v++r)).size:Int):=by omega
   have hcut:(str (cP v++r)).extract q (str (cP v++r)).size=str r:=by rw[mU,hq,Ei rfl]
   have a1:¬(str (cP v++r)).toList=[]:=fun h=>by
    have h2:(str (cP v++r)).toList.length=(str (cP v++r)).size:=by rw[Lib.toList_data];rfl
    rw[h,p] at h2;simp at h2;omega
   rw[N];obtain⟨s,hs⟩:∃s,s=str (cP v++r):=⟨_,rfl⟩;rw[<-hs] at T p ar ap hcut a1 ⊢;have b1:s.toList.isEmpty=false:=by rw[List.isEmpty_eq_false_iff];exact a1
   replace p:=bZ p;replace hr:=bZ hr;clear hs N hq a0 z y;go_wp2_with (first | (refine(T.o _).mono ?_;rintro e w2 ⟨rfl,u⟩) | (refine(a6.o _).mono ?_;rintro e t ⟨rfl,d⟩;have y0:t.cell? (U w2.heap.size 0)=some (I v.k):=d.o.cellEq ((Blk.new w2 60 #[I v.k,I v.n,.string v.s]).cell 0) (by simp);have y1:t.cell? (U w2.heap.size 1)=some (I v.n):=d.o.cellEq ((Blk.new w2 60 #[I v.k,I v.n,.string v.s]).cell 1) (by simp);have y2:t.cell? (U w2.heap.size 2)=some (.string v.s):=d.o.cellEq ((Blk.new w2 60 #[I v.k,I v.n,.string v.s]).cell 2) (by simp)));obtain⟨a,Q⟩:∃b,b=w2.heap.size:=⟨_,rfl⟩;have a9:Z (aa [] w t):=bZ ((hk.o.trans u.o).trans (((aa.refl [] w2).alloc _).trans d.o));have an:Z (t.ownsRow w.heap.size 60 3 u4 j (bz (l.take j))):=bZ (ab E.o (u.o.trans (((aa.refl [] w2).alloc _).trans d.o)));have D:Z (a∉u4.ownBlock.toList):=bZ (fun i=>by
    rw[D8] at i;obtain⟨_,b3,a5⟩:=eN E.o i;have h1:=a5.lt;have h2:=u.o.size;omega)
   rw[<-Q] at y0 y1 y2 ⊢;clear Q u d E hk;refine ad (S:=(fun w':World=>w'.cell? (U a 0)=some (I v.k)/\w'.cell? (U a 1)=some (I v.n)/\w'.cell? (U a 2)=some (.string v.s))) (n:=9) (by kernel_rfl) ?_;have f:t.drew.cell? (U a 0)=some (I v.k)/\t.drew.cell? (U a 1)=some (I v.n)/\t.drew.cell? (U a 2)=some (.string v.s):=⟨y0,y1,y2⟩;have X:Z (aa [] w t.drew):=bZ a9.o.drew;have a2:Z (t.drew.ownsRow w.heap.size 60 3 u4 j (bz (l.take j))):=an;clear y0 y1 y2;generalize t.drew=wd at*;refine ord [0,1,4,5,6] ?_
   iterate 5 (refine tq f ?_;try simp only[PT,Y1,Y2,Y3])
   refine av ?_;refine J1 2 fun K P=>?_;dsimp only[Y1,Y2,Y3];go_simp;obtain⟨b5,R⟩:∃g,g=wd.heap.size:=⟨_,rfl⟩;have O:aa [] wd (wd.alloc (.cells #[I v.k,I v.n,.string v.s] 60)):=(aa.refl [] wd).alloc _;have B5:=bZ (Blk.new wd 60 #[I v.k,I v.n,.string v.s]);have f:(wd.alloc (.cells #[I v.k,I v.n,.string v.s] 60)).cell? (U a 0)=some (I v.k)/\(wd.alloc (.cells #[I v.k,I v.n,.string v.s] 60)).cell? (U a 1)=some (I v.n)/\(wd.alloc (.cells #[I v.k,I v.n,.string v.s] 60)).cell? (U a 2)=some (.string v.s):=⟨O.cellEq f.1 (by simp),O.cellEq f.2.1 (by simp),O.cellEq f.2.2 (by simp)⟩;have Y:=bZ (X.o.trans O);have a3:=bZ (ab a2.o O);refine P _ _ (.inr f) ?_;clear P K;rw[<-R] at B5 ⊢;clear R X a2 O;generalize wd.alloc (.cells #[I v.k,I v.n,.string v.s] 60)=wz at*
   try simp only[PT,Y1,Y2,Y3]
   refine J1 3 fun K P=>?_;dsimp only[Y1,Y2,Y3];refine am (.tmp 24) (.tmp 26) 62 (by rfl) w.heap.size 60 i0 (.agg #[I 0,I 0,.string ⟨#[]⟩]) 3 32 Tryz.underlying62 hi.o F.o H.o J.o rfl (by decide) _ j (bz (l.take j)) (by rfl) a3.o (V b5) 1 _ [I v.k,I v.n,.string v.s] (by rfl) rfl (by have:=aI (off:=0) (l:=[I v.k,I v.n,.string v.s]) B5.o (by simp) 1;exact this) (by simp[Value.oneCell']) (by unfold maxLen;omega) (by omega) (Y.o.size) ?_;intro v7 w7 q1 q2 q3 q4;have a8:=bZ (aF (wo:=wz) Y.o (aa.refl [] _) a3.o q2.o);have ak:Z (w7.ownsRow w.heap.size 60 3 v7 (j+1) (bz (l.take (j+1)))):=bZ (by rw[a7.o];exact q1.o);have k7:aa u4.ownBlock.toList wz w7:=aa.grown q2.o (by intro g h;rw[h];simp);have f:w7.cell? (U a 0)=some (I v.k)/\w7.cell? (U a 1)=some (I v.n)/\w7.cell? (U a 2)=some (.string v.s):=⟨k7.cellEq f.1 D.o,k7.cellEq f.2.1 D.o,k7.cellEq f.2.2 D.o⟩;refine P _ _ (.inr f) ?_;clear P K q1 q2 q3 q4 k7
   try simp only[PT,Y1,Y2,Y3]
   refine ord [7,8] ?_
   iterate 2 (refine tq f ?_;try simp only[PT,Y1,Y2,Y3])
   refine av ?_;refine JD ?_;go_wp2_with fail;go_roundw
   case rel=>exact⟨j+1,by omega,by rw[hr.o],ak,a8⟩
   case measure=>simp[gu];have:=p.o;omega
  obtain rfl:j=m:=by omega
  have B:Z (∃L M,u4=.slice L j M):=bZ (by obtain⟨L,M,h,_⟩:=aH E.o;exact⟨L,M,h⟩);obtain⟨L,M,rfl⟩:=B.o;have N:l.drop j=[]:=D0 (by rw[<-i.o];exact C9 _);have a4:l.take j=l:=C6 (by rw[<-i.o];exact C9 _);rw[N];have b4:(str (ca [])).toList.isEmpty=true:=by rw[Lib.toList_data];rfl
  rw[a4] at E;have C:Z (uW w l (.returned (.tuple #[.slice L j M,I 0])) wr):=bZ ⟨L,j,M,rfl,i.o.symm,bZ (ia E.o i.o.symm),bZ (ii E.o),hk⟩;clear N a4 B;go_wp2_with fail;go_ret2;exact C.o
theorem sO (w:World) (a:Int):Calls Tryz.prog 205 #[I a] w fun e w'=>e=.returned (.bool false)/\w'=w:=by
 go_enter Tryz.func205,Tryz.ntmps205;go_wp2_with fail;go_ret;exact⟨rfl,rfl⟩
theorem BS (w:World) (a b:Int):Calls Tryz.prog 179 #[I a,I b] w fun e w'=>e=.returned (I (dp a b))/\w'=w:=by
 unfold dp;by_cases c:a<b
 ·rw[if_pos c];go_enter Tryz.func179,Tryz.ntmps179;go_wp2_with (refine(sO _ _).mono ?_;rintro e w' ⟨rfl,rfl⟩)
  all_goals (go_ret;exact⟨rfl,rfl⟩)
 rw[if_neg c];by_cases d:b<a
 ·rw[if_pos d];go_enter Tryz.func179,Tryz.ntmps179;go_wp2_with (refine(sO _ _).mono ?_;rintro e w' ⟨rfl,rfl⟩)
  all_goals (go_ret;exact⟨rfl,rfl⟩)
 rw[if_neg d];go_enter Tryz.func179,Tryz.ntmps179;go_wp2_with (refine(sO _ _).mono ?_;rintro e w' ⟨rfl,rfl⟩)
 all_goals (go_ret;exact⟨rfl,rfl⟩)
theorem ed {a b:Int}:dp a b=0↔a=b:=by
 unfold dp;by_cases c:a<b
 ·rw[if_pos c];omega
 rw[if_neg c];by_cases d:b<a
 ·rw[if_pos d];omega
 rw[if_neg d];omega
theorem BO (w:World) (a b:ByteArray):(callFunc 218 #[.string a,.string b]).run Tryz.prog w=.ok (.value (I (Lib.compareBytes a.data.toList b.data.toList))) w:=by
 rw[run_callFunc_extern Tryz.func218 (by kernel_rfl) (by kernel_rfl) (by kernel_rfl) (e:=Extern.BytealgCompare.compare) (by kernel_rfl),Lib.run_compareString];rfl
theorem fY:∀(a b:List UInt8),Lib.compareBytes a b=0↔a=b
 | [],[]=>by simp[Lib.compareBytes]
 | [],_::_=>by simp[Lib.compareBytes]
 | _::_,[]=>by simp[Lib.compareBytes]
 | x::a,y::b=>by
  unfold Lib.compareBytes;by_cases c:x<y
  ·rw[if_pos c];exact⟨fun h=>by simp at h,fun h=>by injection h with h _;subst h;exact absurd c (UInt8.lt_irrefl _)⟩
  rw[if_neg c];by_cases d:y<x
  ·rw[if_pos d];exact⟨fun h=>by simp at h,fun h=>by injection h with h _;subst h;exact absurd d (UInt8.lt_irrefl _)⟩
  rw[if_neg d,fY a b];have e:x=y:=UInt8.le_antisymm (UInt8.not_lt.1 d) (UInt8.not_lt.1 c);subst e;simp
theorem BR (w:World) (a b:ByteArray):Calls Tryz.prog 180 #[.string a,.string b] w fun e w'=>e=.returned (I (Lib.compareBytes a.data.toList b.data.toList))/\w'=w:=by
 have c:=fun w=>BO w a b;have d:∀w,Calls Tryz.prog 206 #[.string a,.string b] w fun e w'=>e=.returned (I (Lib.compareBytes a.data.toList b.data.toList))/\w'=w:=fun w=>by
  go_enter Tryz.func206,Tryz.ntmps206;go_wp2_with (simp only[c]);go_ret;exact⟨rfl,rfl⟩
 clear c;go_enter Tryz.func180,Tryz.ntmps180;go_wp2_with (refine(d _).mono ?_;rintro e w' ⟨rfl,rfl⟩);go_ret;exact⟨rfl,rfl⟩
def or3 (a b c:Int):Int:=if a=0 then if b=0 then c else b else a
theorem xQ {a b c:Int}:or3 a b c=0↔a=0/\b=0/\c=0:=by
 unfold or3;by_cases h:a=0
 ·rw[if_pos h];by_cases d:b=0
  ·rw[if_pos d];simp[h,d]
  rw[if_neg d];simp[d]
 rw[if_neg h];simp[h]
theorem Cn (w:World) (g:Nat) (a b c:Int) (l:w.cell? (U g 0)=some (I a)) (m:w.cell? (U g 1)=some (I b)) (n:w.cell? (U g 2)=some (I c)):
 Calls Tryz.prog 178 #[.slice (V g) 3 3] w fun e w'=>e=.returned (I (or3 a b c))/\w'=w:=by
  unfold or3;go_enter Tryz.func178,Tryz.ntmps178;go_wp2_with fail;go_loopw [8] (fun i wr=>∃k:Nat,k<=3/\i=I k/\wr=w/\(1<=k->a=0)/\(2<=k->b=0)/\(3<=k->c=0)) (fun i _=>3 - (intOf i).toNat)
  case atStart=>exact⟨0,by omega,rfl,rfl,by omega,by omega,by omega⟩
  obtain⟨k,o,rfl,rfl,d,f,j⟩:=hrel;obtain rfl | rfl | rfl | rfl:k=0\/k=1\/k=2\/k=3:=by omega
  ·clear d f j;by_cases h:a=0
   ·subst h;go_wp2_with fail;go_roundw
    case rel=>exact⟨1,by omega,by go_num,by simp,by simp,by omega,by omega⟩
    case measure=>simp[intOf]<;>omega
   go_wp2_with fail;go_ret;exact⟨rfl,rfl⟩
  ·obtain rfl:=d (by omega);clear d f j;by_cases h:b=0
   ·subst h;go_wp2_with fail;go_roundw
    case rel=>exact⟨2,by omega,by go_num,by simp,by simp,by simp,by omega⟩
    case measure=>simp[intOf]<;>omega
   go_wp2_with fail;go_ret;exact⟨rfl,rfl⟩
  ·obtain rfl:=d (by omega);obtain rfl:=f (by omega);clear d f j;by_cases h:c=0
   ·subst h;go_wp2_with fail;go_roundw
    case rel=>exact⟨3,by omega,by go_num,by simp,by simp,by simp,by simp⟩
    case measure=>simp[intOf]<;>omega
   go_wp2_with fail;go_ret;exact⟨rfl,rfl⟩
  obtain rfl:=d (by omega);obtain rfl:=f (by omega);obtain rfl:=j (by omega);clear d f j;go_wp2_with fail;go_ret;exact⟨rfl,rfl⟩
def ip (P:Prop) (w:World) (e:Ending) (w':World):Prop:=∃i:Int,e=.returned (I i)/\(i=0↔P)/\Z (aa [] w w')
theorem wY {a b:Val}:a=b↔a.k=b.k/\a.n=b.n/\a.s=b.s:=by
 obtain⟨k,n,s⟩:=a;obtain⟨c,n',d⟩:=b;simp
theorem rV (w:World) (a b:Val):Calls Tryz.prog 156 #[.agg #[I a.k,I a.n,.string a.s],.agg #[I b.k,I b.n,.string b.s]] w (ip (a=b) w):=by
 obtain⟨d,p⟩:∃x,x=dp a.k b.k:=⟨_,rfl⟩;obtain⟨f,q⟩:∃x,x=dp a.n b.n:=⟨_,rfl⟩;obtain⟨i,r⟩:∃x,x=Lib.compareBytes a.s.data.toList b.s.data.toList:=⟨_,rfl⟩;have Y:Z (or3 d f i=0↔a=b):=bZ (by
  rw[xQ,p,q,r,ed,ed,fY,wY];exact⟨fun h=>⟨h.1,h.2.1,iX h.2.2⟩,fun h=>⟨h.1,h.2.1,by rw[h.2.2]⟩⟩)
 have O:Z (∀W,Calls Tryz.prog 179 #[I a.k,I b.k] W fun e w'=>e=.returned (I d)/\w'=W):=bZ (fun W=>by rw[p];exact BS W _ _);have P:Z (∀W,Calls Tryz.prog 138 #[I a.n,I b.n] W fun e w'=>e=.returned (I f)/\w'=W):=bZ (fun W=>by rw[q];exact(iS W _ _).mono (fun e w' h=>⟨h.1,h.2.symm⟩));have Q:Z (∀W,Calls Tryz.prog 180 #[.string a.s,.string b.s] W fun e w'=>e=.returned (I i)/\w'=W):=bZ (fun W=>by rw[r];exact BR W _ _);clear p q r;have l:=(Blk.new w 60 #[I a.k,I a.n,.string a.s]).alloc (.cells #[I b.k,I b.n,.string b.s] 60);have j:=Blk.new (w.alloc (.cells #[I a.k,I a.n,.string a.s] 60)) 60 #[I b.k,I b.n,.string b.s];have C:(w.alloc (.cells #[I a.k,I a.n,.string a.s] 60)).heap.size=w.heap.size+1:=by simp
 rw[C] at j;have B:Z (aa [] w ((w.alloc (.cells #[I a.k,I a.n,.string a.s] 60)).alloc (.cells #[I b.k,I b.n,.string b.s] 60))):=bZ (((aa.refl [] w).alloc _).alloc _);replace l:=bZ l;replace j:=bZ j;clear C;go_enter Tryz.func156,Tryz.ntmps156;go_wp2_with fail;obtain⟨m,D⟩:∃x,x=(w.alloc (.cells #[I a.k,I a.n,.string a.s] 60)).alloc (.cells #[I b.k,I b.n,.string b.s] 60):=⟨_,rfl⟩;rw[<-D] at l j B ⊢;clear D;obtain⟨u,z⟩:∃x,x=w.heap.size:=⟨_,rfl⟩;obtain⟨v,A⟩:∃x,x=w.heap.size+1:=⟨_,rfl⟩;rw[<-A] at j ⊢;rw[<-z] at l ⊢;clear z A;have T:(m.drew.cell? (U u 0)=some (I a.k)/\m.drew.cell? (U u 1)=some (I a.n)/\m.drew.cell? (U u 2)=some (.string a.s))/\(m.drew.cell? (U v 0)=some (I b.k)/\m.drew.cell? (U v 1)=some (I b.n)/\m.drew.cell? (U v 2)=some (.string b.s)):=
  ⟨⟨l.o.cell 0,l.o.cell 1,l.o.cell 2⟩,⟨j.o.cell 0,j.o.cell 1,j.o.cell 2⟩⟩
 clear l j;refine ad (S:=(fun w':World=>(w'.cell? (U u 0)=some (I a.k)/\w'.cell? (U u 1)=some (I a.n)/\w'.cell? (U u 2)=some (.string a.s))/\(w'.cell? (U v 0)=some (I b.k)/\w'.cell? (U v 1)=some (I b.n)/\w'.cell? (U v 2)=some (.string b.s)))) (n:=15) (by kernel_rfl) ?_;have E:=T;have X:Z (aa [] w m.drew):=bZ B.o.drew;generalize m.drew=wd at*;refine ord [0,1,2,3,5,6,7,8,10,11,12,13] ?_
 iterate 12 (refine tq E ?_;try simp only[PT,Y1,Y2,Y3])
 refine av ?_;refine J1 4 fun K c=>?_;dsimp only[Y1,Y2,Y3];go_simp;refine(O.o _).mono ?_;rintro e t ⟨rfl,H⟩;subst t;refine c _ _ (.inr E) ?_;clear c K
 try simp only[PT,Y1,Y2,Y3]
 refine J1 9 fun K c=>?_;dsimp only[Y1,Y2,Y3];go_simp;refine(P.o _).mono ?_;rintro e t ⟨rfl,H⟩;subst t;refine c _ _ (.inr E) ?_;clear c K
 try simp only[PT,Y1,Y2,Y3]
 refine J1 14 fun K c=>?_;dsimp only[Y1,Y2,Y3];go_simp;refine(Q.o _).mono ?_;rintro e t ⟨rfl,H⟩;subst t;refine c _ _ (.inr E) ?_;clear c K
 try simp only[PT,Y1,Y2,Y3]
 refine J1 15 fun K c=>?_;dsimp only[Y1,Y2,Y3];go_simp;obtain⟨R,y⟩:∃g,g=wd.heap.size:=⟨_,rfl⟩;have J:aa [] wd (wd.alloc (.cells #[I d,I f,I i] 3)):=(aa.refl [] wd).alloc _;have L:(wd.alloc (.cells #[I d,I f,I i] 3)).cell? (U wd.heap.size 0)=some (I d):=(Blk.new wd 3 #[I d,I f,I i]).cell 0;have M:(wd.alloc (.cells #[I d,I f,I i] 3)).cell? (U wd.heap.size 1)=some (I f):=(Blk.new wd 3 #[I d,I f,I i]).cell 1;have N:(wd.alloc (.cells #[I d,I f,I i] 3)).cell? (U wd.heap.size 2)=some (I i):=(Blk.new wd 3 #[I d,I f,I i]).cell 2;have F:Z (aa [] w (wd.alloc (.cells #[I d,I f,I i] 3))):=bZ (X.o.trans J);refine c _ _ (.inl (by omega)) ?_;clear c K;rw[<-y] at L M N ⊢;clear y J;generalize wd.alloc (.cells #[I d,I f,I i] 3)=wz at*
 try simp only[PT,Y1,Y2,Y3]
 refine J1 16 fun K c=>?_;dsimp only[Y1,Y2,Y3];go_simp;refine(Cn _ R d f i L M N).mono ?_;rintro e t ⟨rfl,H⟩;subst t;refine c _ _ (.inl (by omega)) ?_;clear c K
 try simp only[PT,Y1,Y2,Y3]
 refine JQ 17 ?_
 try simp only[PT,Y1,Y2,Y3]
 refine JD ?_;go_wp2_with fail;go_ret;exact⟨_,rfl,Y.o,F⟩
theorem mi (w:World) (A B:Option Addr) (l k:List Val) (n c m d:Nat) (E:l.length=n) (D:k.length=m) (K:ah w [] A l) (L:ah w [] B k) (hn:n<=10000) (hm:m<=10000):
 Calls Tryz.prog 155 #[.slice A n c,.slice B m d,.func (.func 156) #[] #[]] w (ip (l=k) w):=by
  replace K:=bZ K;replace L:=bZ L;replace E:=bZ E;replace D:=bZ D;go_enter Tryz.func155,Tryz.ntmps155;go_wp2_with fail;go_loopw [13] (fun C wr=>∃j:Nat,j<=n/\j<=m/\C=I (j:Int)/\Z (l.take j=k.take j)/\Z (aa [] w wr)) (fun C _=>n - (intOf C).toNat)
  case atStart=>exact⟨0,C3 _,C3 _,rfl,bZ rfl,bZ (aa.refl _ _)⟩
  obtain⟨j,hj,a2,rfl,x,a⟩:=hrel;by_cases R:j<n
  ·have a1:(j:Int)<(n:Int):=by omega
   obtain⟨v,r⟩:∃v,l[j]? =some v:=⟨_,CT (by rw[E.o];exact R)⟩;obtain⟨g,off,rfl,hg,x0,x1,x2⟩:=(K.o.keep a.o (by simp)) j v r;have wj:IntKind.i64.wrap ((j:Int)+1)=(j:Int)+1:=C0 _ (by omega);have y:aa [] wr (wr.alloc (.cells #[I v.k,I v.n,.string v.s] 60)):=(aa.refl [] wr).alloc _;by_cases Q:j<m
   ·have S:(j:Int)<(m:Int):=by omega
    have T:¬(m:Int)<=(j:Int):=by omega
    obtain⟨u,q⟩:∃u,k[j]? =some u:=⟨_,CT (by rw[D.o];exact Q)⟩;obtain⟨g',X,rfl,a0,z0,z1,z2⟩:=(L.o.keep a.o (by simp)) j u q;have y0:=y.cellEq z0 (by simp);have y1:=y.cellEq z1 (by simp);have y2:=y.cellEq z2 (by simp);have F:=bZ (fun W=>rV W v u);have J:aa [] wr ((wr.alloc (.cells #[I v.k,I v.n,.string v.s] 60)).alloc (.cells #[I u.k,I u.n,.string u.s] 60)):=y.alloc _;replace y:=bZ y;replace J:=bZ J;replace r:=bZ r;replace q:=bZ q;by_cases f:v=u
    ·have b:Z (∀i:Int,(i=0↔v=u)->i=0):=bZ (fun i h=>h.2 f);have H:Z (l.take (j+1)=k.take (j+1)):=bZ (by rw[Dq,Dq,r.o,q.o,x.o,f]);clear f x;go_wp2_with (refine(F.o _).mono ?_;rintro e w3 ⟨i,rfl,N,z⟩;obtain rfl:=b.o i N);have P:=bZ (a.o.trans (J.o.trans z.o));go_roundw
     case rel=>exact⟨j+1,by omega,by omega,by go_num,H,P⟩
     case measure=>simp[intOf];omega
    have b:Z (∀i:Int,(i=0↔v=u)->¬i=0):=bZ (fun i h Y=>f (h.1 Y));have p:Z (¬l=k):=bZ (fun h=>f (by
     have t:=r.o;rw[h,q.o] at t;injection t with t;exact t.symm))
    clear f x;go_wp2_with (refine(F.o _).mono ?_;rintro e w3 ⟨i,rfl,N,z⟩;have O:=b.o i N);go_ret;exact⟨i,rfl,⟨fun h=>absurd h O,fun h=>absurd h p.o⟩,bZ (a.o.trans (J.o.trans z.o))⟩
   obtain rfl:j=m:=by omega
   have p:Z (¬l=k):=bZ (fun h=>by have t:=E.o;have h2:=D.o;rw[h] at t;omega);replace y:=bZ y;go_wp2_with fail;go_ret;exact⟨1,rfl,⟨fun h=>by omega,fun h=>absurd h p.o⟩,bZ (a.o.trans y.o)⟩
  obtain rfl:j=n:=by omega
  by_cases a4:j<m
  ·have a3:(j:Int)<(m:Int):=by omega
   have p:Z (¬l=k):=bZ (fun h=>by have t:=E.o;have h2:=D.o;rw[h] at t;omega);go_wp2_with fail;go_ret;exact⟨-1,rfl,⟨fun h=>by omega,fun h=>absurd h p.o⟩,a⟩
  obtain rfl:j=m:=by omega
  have M:Z (l=k):=bZ (by
   have t:=x.o;rwa [C6 (by rw[E.o];exact C9 _),C6 (by rw[D.o];exact C9 _)] at t)
  go_wp2_with fail;go_ret;exact⟨0,rfl,⟨fun _=>M.o,fun _=>rfl⟩,a⟩
theorem qT (w:World) (A B:Option Addr) (l k:List Val) (n c m d:Nat) (g:l.length=n) (a:k.length=m) (b:ah w [] A l) (f:ah w [] B k) (p:n<=10000) (j:m<=10000):
 Calls Tryz.prog 133 #[.slice A n c,.slice B m d] w (ip (l=k) w):=by
  have H:=bZ (mi w A B l k n c m d g a b f p j);clear b f g a;go_enter Tryz.func133,Tryz.ntmps133;go_wp2_with (refine H.o.mono ?_;rintro e w' ⟨i,rfl,h,a⟩);go_ret;exact⟨i,rfl,h,a⟩
theorem kD (w:World) (a b:Int):Calls Tryz.prog 112 #[I a,I b] w fun e w'=>e=.returned (I (dp a b))/\w=w':=by
 by_cases c:a<b
 ·rw[show dp a b= -1 by unfold dp;rw[if_pos c]];go_enter Tryz.func112,Tryz.ntmps112;go_wp2_with fail;go_ret;exact⟨rfl,rfl⟩
 by_cases d:b<a
 ·rw[show dp a b=1 by unfold dp;rw[if_neg c,if_pos d]];go_enter Tryz.func112,Tryz.ntmps112;go_wp2_with fail;go_ret;exact⟨rfl,rfl⟩
 rw[show dp a b=0 by unfold dp;rw[if_neg c,if_neg d]];go_enter Tryz.func112,Tryz.ntmps112;go_wp2_with fail;go_ret;exact⟨rfl,rfl⟩
def jx:List UInt8->List UInt8->Int
 | [],[]=>0
 | [],_::_=> -1
 | _::_,[]=>1
 | a::l,b::k=>if a=b then jx l k else dp (a.toNat:Int) (b.toNat:Int)
theorem py:∀ {l k:List UInt8},jx l k=0↔l=k
 | [],[]=>by simp[jx]
 | [],_::_=>by simp[jx]
 | _::_,[]=>by simp[jx]
 | a::l,b::k=>by
  unfold jx;by_cases h:a=b
  ·rw[if_pos h,py,h];simp
  rw[if_neg h,ed];constructor
  ·intro c;exact absurd (E6.1 (by omega)) h
  intro c;injection c with h1 _;exact absurd h1 h
theorem eR (s:ByteArray) {j:Nat} (h:j<s.size):s.data.toList[j]? =some (s[j]'h):=by
 rw[CT (by rw[DO];exact h)];rfl
theorem dS {α:Type} {l:List α} {j:Nat} {v:α} (h:l[j]? =some v):l.drop j=v::l.drop (j+1):=by
 rw[DP (CV.1 h).1,(CV.1 h).2]
theorem q8 {P:Program} {f:FuncId} {args:Array Value} {w:World} {q n:Nat} {v:Value}
 (h:Calls P f args (w.drewN (q+n)) fun e w'=>e=.returned v/\w.drewN (q+n)=w'):Calls P f args (w.drewN (q+n)) fun e w''=>e=.returned v/\∃m,w''=w.drewN (q+m):=
 h.mono fun _ _ ⟨a,b⟩=>⟨a,n,b.symm⟩
theorem wZ (w:World) (a b:ByteArray) (H:a.size<=1000000) (J:b.size<=1000000):Calls Tryz.prog 139 #[.string a,.string b] w fun e w'=>e=.returned (I (jx a.data.toList b.data.toList))/\Z (aa [] w w'):=by
 obtain⟨r,q⟩:∃r,r=jx a.data.toList b.data.toList:=⟨_,rfl⟩;rw[<-q];have v:Z (∀W x y,Calls Tryz.prog 112 #[I x,I y] W fun e w'=>e=.returned (I (dp x y))/\W=w'):=bZ (fun W x y=>kD W x y);replace q:=bZ q;go_enter Tryz.func139,Tryz.ntmps139;go_wp2_with fail;go_loopw [5] (fun i wr=>∃j:Nat,j<=a.size/\j<=b.size/\i=I (j:Int)/\Z (jx (a.data.toList.drop j) (b.data.toList.drop j)=r)/\Z (aa [] w wr)) (fun i _=>a.size - (intOf i).toNat)
 case atStart=>exact⟨0,C3 _,C3 _,rfl,bZ q.o.symm,bZ (aa.refl _ _)⟩
 obtain⟨j,K,D,rfl,p,k⟩:=hrel;by_cases c:j<a.size
 ·have E:(j:Int)<(a.size:Int):=by omega
  by_cases d:j<b.size
  ·have z:(j:Int)<(b.size:Int):=by omega
   have L:IntKind.i64.wrap ((j:Int)+1)=(j:Int)+1:=C0 _ (by omega);by_cases g:a[j]'c=b[j]'d
   ·have s:((((a[j]'c).toNat:Nat):Int) !=(((b[j]'d).toNat:Nat):Int))=false:=by rw[g];simp
    have t:Z (jx (a.data.toList.drop (j+1)) (b.data.toList.drop (j+1))=r):=bZ (by
     have:=p.o;rw[dS (eR a c),dS (eR b d)] at this;unfold jx at this;rwa [if_pos g] at this)
    replace g:=bZ g;go_wp2_with fail;go_quiet (fail);go_wp2_with fail;go_roundw
    case rel=>exact⟨j+1,by omega,by omega,by go_num,t,bZ (k.o.drewN _)⟩
    case measure=>simp[intOf];omega
   have m:(a[j]'c).toNat≠(b[j]'d).toNat:=fun h=>g (E6.1 h);have s:((((a[j]'c).toNat:Nat):Int) !=(((b[j]'d).toNat:Nat):Int))=true:=by rw[bne_iff_ne];omega
   have f:Z (dp (((a[j]'c).toNat:Nat):Int) (((b[j]'d).toNat:Nat):Int)=r):=bZ (by
    have:=p.o;rw[dS (eR a c),dS (eR b d)] at this;unfold jx at this;rwa [if_neg g] at this)
   replace g:=bZ g;replace m:=bZ m;go_wp2_with fail;go_quiet (fail);go_wp2_with fail;have u:Z (∀n,Calls Tryz.prog 112 #[I (((a[j]'c).toNat:Nat):Int),I (((b[j]'d).toNat:Nat):Int)] (wr.drewN n) fun e w'=>e=.returned (I (dp (((a[j]'c).toNat:Nat):Int) (((b[j]'d).toNat:Nat):Int)))/\wr.drewN n=w'):=bZ (fun n=>kD _ _ _);rw[f.o] at u;have A:IntKind.i64.wrap (((a[j]'c).toNat:Nat):Int)=(((a[j]'c).toNat:Nat):Int):=C0 _ (by have:=(a[j]'c).toNat_lt;omega);have B:IntKind.i64.wrap (((b[j]'d).toNat:Nat):Int)=(((b[j]'d).toNat:Nat):Int):=C0 _ (by have:=(b[j]'d).toNat_lt;omega);have C:Z (∀W,Calls Tryz.prog 112 #[I (IntKind.i64.wrap (((a[j]'c).toNat:Nat):Int)),I (IntKind.i64.wrap (((b[j]'d).toNat:Nat):Int))] W fun e w'=>e=.returned (I r)/\W=w'):=bZ (fun W=>by rw[<-f.o,A,B];exact kD _ _ _);clear A B;clear u;go_quiet (with_reducible exact q8 (C.o _));go_wp2_with fail;go_ret;exact⟨rfl,by first | exact bZ (k.o.drewN _) | exact bZ ((k.o.drewN _).drewN _)⟩
  obtain rfl:j=b.size:=by omega
  have f:Z (dp (a.size:Int) (b.size:Int)=r):=bZ (by
   have h:=p.o;rw[dS (eR a c),DB (l:=b.data.toList) (by rw[DO];exact C9 _)] at h;rw[<-h];unfold dp jx;rw[if_neg (by omega),if_pos (by omega)])
  go_wp2_with (go_at_call 112;refine(v.o _ _ _).mono ?_;rintro e w' ⟨rfl,rfl⟩);go_ret;exact⟨by rw[f.o];rfl,k⟩
 obtain rfl:j=a.size:=by omega
 have f:Z (dp (a.size:Int) (b.size:Int)=r):=bZ (by
  have h:=p.o;rw[DB (l:=a.data.toList) (by rw[DO];exact C9 _)] at h;unfold dp;rw[<-h];by_cases F:a.size<b.size
  ·rw[dS (eR b F)];unfold jx;rw[if_pos (by omega)]
  rw[DB (l:=b.data.toList) (by rw[DO];show b.size<=_;omega)];unfold jx;rw[if_neg (by omega),if_neg (by omega)])
 go_wp2_with (go_at_call 112;refine(v.o _ _ _).mono ?_;rintro e w' ⟨rfl,rfl⟩);go_ret;exact⟨by rw[f.o];rfl,k⟩
theorem pV (w:World) (a b:Val) (t:a.fits) (u:b.fits):Calls Tryz.prog 111 #[.agg #[I a.k,I a.n,.string a.s],.agg #[I b.k,I b.n,.string b.s]] w (ip (a=b) w):=by
 have r:Z (∀W x y,Calls Tryz.prog 112 #[I x,I y] W fun e w'=>e=.returned (I (dp x y))/\W=w'):=bZ (fun W x y=>kD W x y);have v:Z (∀W,Calls Tryz.prog 139 #[.string a.s,.string b.s] W fun e w'=>e=.returned (I (jx a.s.data.toList b.s.data.toList))/\Z (aa [] W w')):=bZ (fun W=>wZ W _ _ t.1 u.1);have d:Z (a=b↔a.k=b.k/\a.n=b.n/\a.s=b.s):=bZ wY;have q:Z (aa [] w ((w.alloc (.cells #[I a.k,I a.n,.string a.s] 60)).alloc (.cells #[I b.k,I b.n,.string b.s] 60))):=bZ (((aa.refl [] w).alloc _).alloc _);obtain⟨g,l,B⟩:=a;obtain⟨i,m,C⟩:=b;dsimp only at*;generalize z:((⟨g,l,B⟩:Val)=⟨i,m,C⟩)=P at d ⊢;clear z t u;by_cases c:g=i
 ·by_cases f:l=m
  ·have j:(g !=i)=false:=by rw[c];simp
   have p:(l !=m)=false:=by rw[f];simp
   replace c:=bZ c;replace f:=bZ f;go_enter Tryz.func111,Tryz.ntmps111;go_wp2_with (go_at_call 139;refine(v.o _).mono ?_;rintro e w' ⟨rfl,A⟩);go_ret;refine⟨_,rfl,py.trans ⟨fun h=>d.o.2 ⟨c.o,f.o,iX h⟩,fun h=>by rw[(d.o.1 h).2.2]⟩,bZ (q.o.trans A.o)⟩
  have j:(g !=i)=false:=by rw[c];simp
  have p:(l !=m)=true:=by simpa using f
  replace c:=bZ c;replace f:=bZ f;go_enter Tryz.func111,Tryz.ntmps111;go_wp2_with (go_at_call 112;refine(r.o _ _ _).mono ?_;rintro e w' ⟨rfl,rfl⟩);go_ret;exact⟨_,rfl,ed.trans ⟨fun h=>absurd h f.o,fun h=>(d.o.1 h).2.1⟩,q⟩
 have j:(g !=i)=true:=by simpa using c
 replace c:=bZ c;go_enter Tryz.func111,Tryz.ntmps111;go_wp2_with (go_at_call 112;refine(r.o _ _ _).mono ?_;rintro e w' ⟨rfl,rfl⟩);go_ret;exact⟨_,rfl,ed.trans ⟨fun h=>absurd h c.o,fun h=>(d.o.1 h).1⟩,q⟩
theorem vz (w:World) (X Y:List Nat) (A B:Option Addr) (l k:List Val) (n c m d:Nat) (K:l.length=n) (J:k.length=m) (P:ah w X A l) (Q:ah w Y B k) (hn:n<=10000) (hm:m<=10000) (E:∀v∈l,v.fits) (D:∀v∈k,v.fits):
 Calls Tryz.prog 83 #[.slice A n c,.slice B m d] w (ip (l=k) w):=by
  replace P:=bZ P;replace Q:=bZ Q;replace K:=bZ K;replace J:=bZ J;replace E:=bZ E;replace D:=bZ D;have HI:Z (∀W x y,Calls Tryz.prog 112 #[I x,I y] W fun e w'=>e=.returned (I (dp x y))/\W=w'):=bZ (fun W x y=>kD W x y);go_enter Tryz.func83,Tryz.ntmps83;go_wp2_with fail;go_loopw [5] (fun H wr=>∃j:Nat,j<=n/\j<=m/\H=I (j:Int)/\Z (l.take j=k.take j)/\Z (aa [] w wr)) (fun H _=>n - (intOf H).toNat)
  case atStart=>exact⟨0,C3 _,C3 _,rfl,bZ rfl,bZ (aa.refl _ _)⟩
  obtain⟨j,hj,a5,rfl,t,b⟩:=hrel;by_cases T:j<n
  ·have a4:(j:Int)<(n:Int):=by omega
   by_cases S:j<m
   ·have a0:(j:Int)<(m:Int):=by omega
    obtain⟨v,q⟩:∃v,l[j]? =some v:=⟨_,CT (by rw[K.o];exact T)⟩;obtain⟨g,off,rfl,hg,x0,x1,x2⟩:=(P.o.keep b.o (by simp)) j v q;have wj:IntKind.i64.wrap ((j:Int)+1)=(j:Int)+1:=C0 _ (by omega);obtain⟨u,f⟩:∃u,k[j]? =some u:=⟨_,CT (by rw[J.o];exact S)⟩;obtain⟨g',a1,rfl,a2,z0,z1,z2⟩:=(Q.o.keep b.o (by simp)) j u f;have L:Z (∀W,Calls Tryz.prog 111 #[.agg #[I v.k,I v.n,.string v.s],.agg #[I u.k,I u.n,.string u.s]] W (ip (v=u) W)):=bZ (fun W=>pV W v u (E.o v (CW q)) (D.o u (CW f)));replace q:=bZ q;replace f:=bZ f;by_cases p:v=u
    ·have a:Z (∀i:Int,(i=0↔v=u)->(i !=0)=false):=bZ (fun i h=>by rw[h.2 p];rfl);have N:Z (l.take (j+1)=k.take (j+1)):=bZ (by rw[Dq,Dq,q.o,f.o,t.o,p]);clear p t;go_wp2_with fail;go_region_with (go_at_call 111;refine(L.o _).mono ?_;rintro e w3 ⟨i,rfl,R,C⟩;have z:=a.o i R)
     all_goals go_wp2_with fail
     all_goals exact⟨⟨j+1,by omega,by omega,by go_num,N,bZ (b.o.drew.trans C.o)⟩,by simp[intOf];omega⟩
    have a:Z (∀i:Int,(i=0↔v=u)->¬i=0):=bZ (fun i h h0=>p (h.1 h0));have F:Z (¬l=k):=bZ (fun h=>p (by
     have r:=q.o;rw[h,f.o] at r;injection r with r;exact r.symm))
    clear p t;go_wp2_with fail;go_region_with (go_at_call 111;refine(L.o _).mono ?_;rintro e w3 ⟨i,rfl,R,C⟩;have z:=a.o i R);have a3:(i !=0)=true:=by simpa using z
    all_goals go_wp2_with fail
    all_goals refine bodyPost_ret (v:=I i) (by simp[results,Tryz.results83,go_sem]) rfl ?_
    all_goals exact⟨i,rfl,⟨fun h=>absurd h z,fun h=>absurd h F.o⟩,bZ (b.o.drew.trans C.o)⟩
   obtain rfl:j=m:=by omega
   have F:Z (¬l=k):=bZ (fun h=>by have r:=K.o;have h2:=J.o;rw[h] at r;omega);have O:Z (¬dp (n:Int) (j:Int)=0):=bZ (fun h=>by have:=ed.1 h;omega);go_wp2_with (go_at_call 112;refine(HI.o _ _ _).mono ?_;rintro e w' ⟨rfl,rfl⟩);go_ret;exact⟨_,rfl,⟨fun h=>absurd h O.o,fun h=>absurd h F.o⟩,b⟩
  obtain rfl:j=n:=by omega
  have M:Z (l=k↔j=m):=bZ ⟨fun h=>by have r:=K.o;have h2:=J.o;rw[h] at r;omega,fun h=>by
   subst h;have r:=t.o;rwa [C6 (by rw[K.o];exact C9 _),C6 (by rw[J.o];exact C9 _)] at r⟩
  go_wp2_with (go_at_call 112;refine(HI.o _ _ _).mono ?_;rintro e w' ⟨rfl,rfl⟩);go_ret;exact⟨_,rfl,ed.trans ⟨fun h=>M.o.2 (by omega),fun h=>by have:=M.o.1 h;omega⟩,b⟩
theorem xx (w:World) (X Y:List Nat) (A B:Option Addr) (l k:List Val) (n c m d:Nat) (s:l.length=n) (a:k.length=m) (q:ah w X A l) (r:ah w Y B k) (y:n<=10000) (x:m<=10000) (f:∀v∈l,v.fits) (b:∀v∈k,v.fits):
 Calls Tryz.prog 48 #[.slice A n c,.slice B m d] w fun e w'=>e=.returned (.bool (decide (l=k)))/\Z (aa [] w w'):=by
  have H:=bZ (vz w X Y A B l k n c m d s a q r y x f b);clear q r s a f b;by_cases h:l=k
  ·rw[decide_eq_true h];have p:Z (∀i:Int,(i=0↔l=k)->i=0):=bZ (fun i g=>g.2 h);clear h;go_enter Tryz.func48,Tryz.ntmps48;go_wp2_with (refine H.o.mono ?_;rintro e w' ⟨i,rfl,j,a⟩;obtain rfl:=p.o i j);go_ret;exact⟨rfl,a⟩
  rw[decide_eq_false h];have p:Z (∀i:Int,(i=0↔l=k)->(i==0)=false):=bZ (fun i g=>beq_false_of_ne (fun t=>h (g.1 t)));clear h;go_enter Tryz.func48,Tryz.ntmps48;go_wp2_with (refine H.o.mono ?_;rintro e w' ⟨i,rfl,j,a⟩;have u:=p.o i j);go_ret;exact⟨rfl,a⟩
theorem vB (w:World) (s:ByteArray) (p:s.size<=1000000) (b:Bool) (c:b=true↔∀x∈s.data.toList,32<=x.toNat/\x.toNat<=126):Calls Tryz.prog 128 #[.string s] w fun e w'=>e=.returned (.bool b)/\w=w':=by
 replace c:=bZ c;go_enter Tryz.func128,Tryz.ntmps128;go_wp2_with fail;go_loopw [3] (fun d wr=>∃j:Nat,j<=s.size/\d=I (j:Int)/\Z (∀b∈s.data.toList.take j,32<=b.toNat/\b.toNat<=126)/\w=wr) (fun d _=>s.size - (intOf d).toNat)
 case atStart=>exact⟨0,C3 _,rfl,bZ (by simp),rfl⟩
 obtain⟨j,r,rfl,f,rfl⟩:=hrel;by_cases a:j<s.size
 ·have q:(j:Int)<(s.size:Int):=by omega
  have t:IntKind.i64.wrap ((j:Int)+1)=(j:Int)+1:=C0 _ (by omega);by_cases h:(s[j]'a).toNat<32
  ·have m:((s[j]'a).toNat:Int)<32:=by omega
   obtain rfl:b=false:=by
    cases b with
    | false=>rfl
    | true=>have:=c.o.1 rfl _ (CW (eR s a));omega
   go_wp2_with fail;go_ret;exact⟨rfl,by trivial⟩
  have i:((s[j]'a).toNat<32)=False:=eq_false h;have m:(((s[j]'a).toNat:Int)<32)=False:=eq_false (by omega);by_cases k:126<(s[j]'a).toNat
  ·have n:126<((s[j]'a).toNat:Int):=by omega
   obtain rfl:b=false:=by
    cases b with
    | false=>rfl
    | true=>have:=c.o.1 rfl _ (CW (eR s a));omega
   go_wp2_with fail;go_ret;exact⟨rfl,by trivial⟩
  have l:(126<(s[j]'a).toNat)=False:=eq_false k;have n:(126<((s[j]'a).toNat:Int))=False:=eq_false (by omega);have g:Z (∀b∈s.data.toList.take (j+1),32<=b.toNat/\b.toNat<=126):=bZ (by
   rw[j5 a];intro b c;rcases CX.1 c with c | c
   ·exact f.o b c
   obtain rfl:b=s[j]'a:=by simpa using c
   exact⟨by omega,by omega⟩)
  clear f;go_wp2_with fail;go_roundw
  case rel=>exact⟨j+1,by omega,by go_num,g,by trivial⟩
  case measure=>simp[intOf];omega
 obtain rfl:j=s.size:=by omega
 obtain rfl:b=true:=c.o.2 (by
  have:=f.o;rwa [C6 (by rw[DO];exact C9 _)] at this)
 go_wp2_with fail;go_ret;exact⟨rfl,by trivial⟩
end Go.Proofs.YtmlmfpikncogpaaGreat
