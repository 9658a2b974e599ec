import Derived.Test.YtldmkbhgdbafhaaGreatL24
namespace Go.Proofs.YtldmkbhgdbafhaaGreat
open Go.RowKit
set_option linter.unusedSimpArgs false
set_option linter.unusedVariables false
set_option maxRecDepth 100000
set_option maxHeartbeats 64000000
theorem sj (w:World) (a b:Int):Calls Tryz.prog 162 #[I a,I b] w fun e f=>e=.returned (I (ai a b))/\w=f:=by
 by_cases c:a<b
 ·rw[show ai a b= -1 by unfold ai;rw[if_pos c]];go_enter Tryz.func162,Tryz.ntmps162;go_wp2_with fail;go_ret;exact⟨rfl,rfl⟩
 by_cases d:b<a
 ·rw[show ai a b=1 by unfold ai;rw[if_neg c,if_pos d]];go_enter Tryz.func162,Tryz.ntmps162;go_wp2_with fail;go_ret;exact⟨rfl,rfl⟩
 rw[show ai a b=0 by unfold ai;rw[if_neg c,if_neg d]];go_enter Tryz.func162,Tryz.ntmps162;go_wp2_with fail;go_ret;exact⟨rfl,rfl⟩
theorem ui {S T:List UInt8} {j:Nat} {x y:UInt8} (a:S[j]? =some x) (b:T[j]? =some y):cY (S.drop j) (T.drop j)=if x=y then cY (S.drop (j+1)) (T.drop (j+1)) else ai (x.toNat:Int) (y.toNat:Int):=by
 obtain⟨p,rfl⟩:=CV.1 a;obtain⟨q,rfl⟩:=CV.1 b;rw[DP p,DP q,cY]
theorem qZ {S T:List UInt8} {j:Nat} (h:j=S.length/\j<=T.length\/j<=S.length/\j=T.length):cY (S.drop j) (T.drop j)=ai (S.length:Int) (T.length:Int):=by
 rcases h with ⟨rfl,h⟩ | ⟨h,rfl⟩
 ·rw[List.drop_length];by_cases a:S.length=T.length
  ·rw[DB (by omega),a,ai,if_neg (by omega),if_neg (by omega)];rfl
  rw[DP (show S.length<T.length by omega),ai,if_pos (by omega)];rfl
 rw[List.drop_length];by_cases a:S.length=T.length
 ·rw[DB (by omega),a,ai,if_neg (by omega),if_neg (by omega)];rfl
 rw[DP (show T.length<S.length by omega),ai,if_neg (by omega),if_pos (by omega)];rfl
theorem rp (w:World) (a b:ByteArray) (L:a.size<=100000) (M:b.size<=100000):Calls Tryz.prog 126 #[.string a,.string b] w (RoP w (I (cJ a b))):=by
 obtain⟨R,t⟩:∃R,R=cJ a b:=⟨_,rfl⟩;rw[<-t];have E:Z (R=cY (a.data.toList.drop 0) (b.data.toList.drop 0)):=bZ (by rw[t];rfl);have k:=bZ (fun W x y=>sj W x y);have r:Z (a.data.toList.length=a.size):=bZ (by rw[DO];rfl);have s:Z (b.data.toList.length=b.size):=bZ (by rw[DO];rfl);clear t;have N:Z (∀W,ad [] W W):=bZ (fun W=>ad.refl [] W);go_enter Tryz.func126,Tryz.ntmps126;go_wp2_with fail;go_loopw [5] (fun C wr=>∃j:Nat,j<=a.size/\j<=b.size/\C=I (j:Int)/\Z (R=cY (a.data.toList.drop j) (b.data.toList.drop j))/\Z (ad [] w wr)) (fun C _=>a.size - (intOf C).toNat)
 case atStart=>exact⟨0,C3 _,C3 _,rfl,E,bZ (ad.refl _ _)⟩
 clear E;obtain⟨j,v,z,rfl,l,f⟩:=hrel;obtain⟨D,B⟩:∃x,x=wr:=⟨_,rfl⟩;subst B;by_cases g:j<a.size
 ·by_cases i:j<b.size
  ·have u:(j:Int)<(a.size:Int):=by omega
   have H:(j:Int)<(b.size:Int):=by omega
   have Q:IntKind.i64.wrap ((j:Int)+1)=(j:Int)+1:=C0 _ (by omega);have c:=ui (di a g) (di b i);rw[<-l.o] at c;by_cases d:(a[j]'g)=(b[j]'i)
   ·rw[if_pos d] at c;have J:(((a[j]'g).toNat:Int)==((b[j]'i).toNat:Int))=true:=by rw[d];exact beq_self_eq_true _
    have A:(((a[j]'g).toNat:Int) !=((b[j]'i).toNat:Int))=false:=by rw[d];exact bne_self_eq_false _
    replace c:=bZ c;clear d l;go_upto_region 4 with fail;refine ae (S:=(fun _:World=>True)) (n:=7) (by kernel_rfl) ?_;have p:(fun _:World=>True) D.drew:=trivial;refine ord [0,1,2,3,4,5,6] ?_
    iterate 7 (refine tq p ?_;try simp only[PT,Y1,Y2,Y3])
    refine aB ?_;refine JD ?_;go_wp2_with fail;go_roundw
    case rel=>exact⟨j+1,by omega,by omega,by go_num,c,by first | exact f | exact bZ f.o.drew | exact bZ f.o.drew.drew⟩
    case measure=>simp[intOf];omega
   rw[if_neg d] at c;have m:((a[j]'g).toNat:Int)≠((b[j]'i).toNat:Int):=fun h=>d (E6.1 (by omega));have J:(((a[j]'g).toNat:Int)==((b[j]'i).toNat:Int))=false:=beq_false_of_ne m;have A:(((a[j]'g).toNat:Int) !=((b[j]'i).toNat:Int))=true:=bne_iff_ne.2 m;have O:IntKind.i64.wrap ((a[j]'g).toNat:Int)=((a[j]'g).toNat:Int):=C0 _ (by have:=(a[j]'g).toNat_lt;omega);have P:IntKind.i64.wrap ((b[j]'i).toNat:Int)=((b[j]'i).toNat:Int):=C0 _ (by have:=(b[j]'i).toNat_lt;omega);replace c:=bZ c;clear d l m;go_upto_region 4 with fail;refine ae (S:=(fun _:World=>True)) (n:=7) (by kernel_rfl) ?_;have p:(fun _:World=>True) D.drew:=trivial;refine ord [0,1,2,3,4,5,6] ?_
   iterate 7 (refine tq p ?_;try simp only[PT,Y1,Y2,Y3])
   refine aB ?_;refine JD ?_;go_upto_region 5 with fail;refine ae (S:=(fun _:World=>True)) (n:=8) (by kernel_rfl) ?_;have p:(fun _:World=>True) D.drew.drew:=trivial;refine ord [0,1,2,3,4,5,6,7] ?_
   iterate 8 (refine tq p ?_;try simp only[PT,Y1,Y2,Y3])
   refine aB ?_;refine J1 8 fun K f=>?_;dsimp only[Y1,Y2,Y3];go_simp;refine(k.o _ _ _).mono ?_;rintro e F ⟨rfl,q⟩;subst q;refine f _ _ (.inl (by omega)) ?_;clear f K
   try simp only[PT,Y1,Y2,Y3]
   refine JQ 9 ?_
   try simp only[PT,Y1,Y2,Y3]
   refine JD ?_;go_wp2_with fail;go_ret;rw[c.o];exact⟨rfl,by first | exact f | exact bZ f.o.drew | exact bZ f.o.drew.drew⟩
  obtain rfl:j=b.size:=by omega
  have c:=qZ (S:=a.data.toList) (T:=b.data.toList) (j:=b.size) (.inr ⟨by rw[r.o];exact v,s.o.symm⟩);rw[<-l.o,r.o,s.o] at c;have u:(b.size:Int)<(a.size:Int):=by omega
  replace c:=bZ c;clear l;go_wp2_with (go_at_call 162;refine(k.o _ _ _).mono ?_;rintro e F ⟨rfl,q⟩;subst q);go_ret;rw[c.o];exact⟨rfl,f⟩
 obtain rfl:j=a.size:=by omega
 have c:=qZ (S:=a.data.toList) (T:=b.data.toList) (j:=a.size) (.inl ⟨r.o.symm,by rw[s.o];exact z⟩);rw[<-l.o,r.o,s.o] at c;replace c:=bZ c;clear l;go_wp2_with (go_at_call 162;refine(k.o _ _ _).mono ?_;rintro e F ⟨rfl,q⟩;subst q);go_ret;rw[c.o];exact⟨rfl,f⟩
theorem iw (s:ByteArray) (j:Nat):(s.extract j s.size).data.toList=s.data.toList.drop j:=by
 rw[Lib.extract_data];exact C6 (by rw[Da,DO];exact C9 _)
theorem iv (s:ByteArray) (j:Nat):(s.extract j s.size).size=s.size - j:=by simp[ByteArray.size_extract]
theorem tB {s p:ByteArray} (h:p.size=0):lkB s p=decide (s.size=0):=by
 unfold lkB;have:p.data.toList=[]:=Dh (by rw[DO];exact h);rw[this];have e:s.data.toList.length=s.size:=by rw[DO];rfl
 by_cases a:s.size=0
 ·rw[decide_eq_true a];exact iY.2 (Dh (by omega))
 rw[decide_eq_false a,Bool.eq_false_iff];intro b;rw[iY.1 b] at e;exact a e.symm
theorem jJ {s:ByteArray} (h:0<s.size):s.data.toList=(s[0]'h)::s.data.toList.drop 1:=by
 have:=DP (l:=s.data.toList) (i:=0) (by rw[DO];exact h);rw[EE] at this;exact this
theorem vI {s p:ByteArray} (h:0<p.size) (a:(p[0]'h)=37):lkB s p=true↔∃j,j<=s.size/\lkB (s.extract j s.size) (p.extract 1 p.size)=true:=by
 unfold lkB;have e:s.data.toList.length=s.size:=by rw[DO];rfl
 rw[jJ h,a,pz,e,iw];simp only[iw]
theorem vH {s p:ByteArray} (h:0<p.size) (b:(p[0]'h)≠37) (a:0<s.size):lkB s p=(((p[0]'h)==95 || (p[0]'h)==(s[0]'a)) && lkB (s.extract 1 s.size) (p.extract 1 p.size)):=by
 unfold lkB;rw[jJ h,jJ a,iw,iw,lk.eq_def];dsimp only;rw[if_neg b]
theorem tC {s p:ByteArray} (h:0<p.size) (a:(p[0]'h)≠37) (b:s.size=0):lkB s p=false:=by
 unfold lkB;have:s.data.toList=[]:=Dh (by rw[DO];exact b);rw[jJ h,this,lk.eq_def];dsimp only;rw[if_neg a]
theorem si:∀(m:Nat) (w:World) (s p:ByteArray),p.size=m->s.size<=100000->p.size<=100000->Calls Tryz.prog 125 #[.string s,.string p] w (RoP w (.bool (lkB s p))):=by
 intro m
 induction m with
 | zero=>
  intro w s p B hs _;have r:=bZ (ad.refl [] w);rw[tB B];have u:p.toList=[]:=dd.2 B;have O:p.toList.isEmpty=true:=by rw[u];rfl
  by_cases h:s.size=0
  ·have f:s.toList=[]:=dd.2 h;have z:s.toList.isEmpty=true:=by rw[f];rfl
   rw[decide_eq_true h];clear h B;go_enter Tryz.func125,Tryz.ntmps125;go_wp2_with fail;go_ret;exact⟨rfl,r⟩
  have f:¬s.toList=[]:=fun D=>h (dd.1 D);have z:s.toList.isEmpty=false:=by rw[Bool.eq_false_iff];exact fun h=>f (List.isEmpty_iff.1 h)
  rw[decide_eq_false h];clear h B;go_enter Tryz.func125,Tryz.ntmps125;go_wp2_with fail;go_ret;exact⟨rfl,r⟩
 | succ m ih=>
  intro w s p B hs a6;have c:0<p.size:=by omega
  have u:¬p.toList=[]:=fun D=>by have:=dd.1 D;omega
  have O:p.toList.isEmpty=false:=by rw[Bool.eq_false_iff];exact fun h=>u (List.isEmpty_iff.1 h)
  have r:=bZ (ad.refl [] w);have J:=bZ (fun W (s':ByteArray) (h:s'.size<=100000)=>ih W s' (p.extract 1 p.size) (by rw[iv];omega) h (by rw[iv];omega));have a4:(0:Int)<(p.size:Int):=by omega
  have a1:(1:Int)<=(p.size:Int):=by omega
  obtain⟨R,t⟩:∃R,R=lkB s p:=⟨_,rfl⟩;rw[<-t];clear ih B;by_cases d:(p[0]'c)=37
  ·have hq:(((p[0]'c).toNat:Int)==37)=true:=by rw[d];rfl
   have g:=vI (s:=s) c d;rw[<-t] at g;replace g:=bZ g;clear t d;go_enter Tryz.func125,Tryz.ntmps125;go_wp2_with fail;go_loopw [5] (fun T wr=>∃j:Nat,j<=s.size+1/\T=I (j:Int)/\Z (∀i,i<j->lkB (s.extract i s.size) (p.extract 1 p.size)=false)/\Z (ad [] w wr)) (fun T _=>s.size+1 - (intOf T).toNat)
   case atStart=>exact⟨0,C3 _,rfl,bZ (fun i h=>absurd h (by omega)),r⟩
   clear r;obtain⟨j,hj,rfl,E,H⟩:=hrel;obtain⟨wo,P⟩:∃x,x=wr:=⟨_,rfl⟩;subst P;by_cases M:j<=s.size
   ·have a3:(j:Int)<=(s.size:Int):=by omega
    have wj:IntKind.i64.wrap ((j:Int)+1)=(j:Int)+1:=C0 _ (by omega);obtain⟨b,l⟩:∃b,b=lkB (s.extract j s.size) (p.extract 1 p.size):=⟨_,rfl⟩;have C:=bZ (fun W=>J.o W (s.extract j s.size) (by rw[iv];omega));rw[<-l] at C;replace l:=bZ l;go_upto_region 7 with fail;refine ae (S:=(fun _:World=>True)) (n:=5) (by kernel_rfl) ?_;have a:(fun _:World=>True) wo.drew:=trivial;refine ord [0,1,2,3,4] ?_
    iterate 5 (refine tq a ?_;try simp only[PT,Y1,Y2,Y3])
    refine aB ?_;refine J1 5 fun K F=>?_;dsimp only[Y1,Y2,Y3];go_simp;refine(C.o _).mono ?_;rintro e w7 ⟨rfl,Q⟩;have q:=bZ ((H.o.drew).trans Q.o);refine F _ _ (.inl (by omega)) ?_;clear F K
    try simp only[PT,Y1,Y2,Y3]
    refine JD ?_;cases b
    ·have L:Z (∀i,i<j+1->lkB (s.extract i s.size) (p.extract 1 p.size)=false):=bZ (fun i hi=>by
      by_cases h:i=j
      ·subst h;exact l.o.symm
      exact E.o i (by omega))
     clear E l;go_wp2_with fail;go_roundw
     case rel=>exact⟨j+1,by omega,by go_num,L,q⟩
     case measure=>simp[intOf];omega
    obtain rfl:R=true:=g.o.2 ⟨j,M,l.o.symm⟩;clear E l;go_wp2_with fail;go_ret;exact⟨rfl,q⟩
   obtain rfl:j=s.size+1:=by omega
   have Y:(((s.size+1:Nat):Int)<=(s.size:Int))=False:=eq_false (by omega);have N:(((s.size:Int)+1)<=(s.size:Int))=False:=eq_false (by omega);obtain rfl:R=false:=by
    rw[Bool.eq_false_iff];intro h;obtain⟨i,hi,X⟩:=g.o.1 h;rw[E.o i (by omega)] at X;cases X
   clear E;go_wp2_with fail;go_ret;exact⟨rfl,H⟩
  have hq:(((p[0]'c).toNat:Int)==37)=false:=(fp _ 37).trans (decide_eq_false d);by_cases k:s.size=0
  ·have f:s.toList=[]:=dd.2 k;have z:s.toList.isEmpty=true:=by rw[f];rfl
   obtain rfl:R=false:=by rw[t,tC c d k]
   clear t d k;go_enter Tryz.func125,Tryz.ntmps125;go_upto_region 10 with fail;refine ae (S:=(fun _:World=>True)) (n:=19) (by kernel_rfl) ?_;have a:(fun _:World=>True) w.drew:=trivial;refine ord [0,1,2,3,4,5,6,7,8,9,10,11,12,13,14,15,16,17,18] ?_
   iterate 3 (refine tq a ?_;try simp only[PT,Y1,Y2,Y3])
   iterate 10 (first | (refine tu a ?_;try simp only[PT,Y1,Y2,Y3]) | (refine tq a ?_;try simp only[PT,Y1,Y2,Y3]))
   iterate 2 (refine tq a ?_;try simp only[PT,Y1,Y2,Y3])
   iterate 4 (first | (refine tu a ?_;try simp only[PT,Y1,Y2,Y3]) | (refine tq a ?_;try simp only[PT,Y1,Y2,Y3]))
   refine aB ?_;refine JQ 19 ?_
   try simp only[PT,Y1,Y2,Y3]
   refine JQ 20 ?_
   try simp only[PT,Y1,Y2,Y3]
   refine JQ 21 ?_
   try simp only[PT,Y1,Y2,Y3]
   refine JD ?_;go_wp2_with fail;go_ret;exact⟨rfl,bZ r.o.drew⟩
  have f:¬s.toList=[]:=fun D=>k (dd.1 D);have z:s.toList.isEmpty=false:=by rw[Bool.eq_false_iff];exact fun h=>f (List.isEmpty_iff.1 h)
  have A:0<s.size:=by omega
  have a9:(0:Int)<(s.size:Int):=by omega
  have a2:(1:Int)<=(s.size:Int):=by omega
  have g:=vH c d A;rw[<-t] at g;obtain⟨q5,v⟩:∃b,b=((p[0]'c)==95):=⟨_,rfl⟩;obtain⟨qd,y⟩:∃b,b=((p[0]'c)==(s[0]'A)):=⟨_,rfl⟩;have a0:(((p[0]'c).toNat:Int)==95)=q5:=by rw[v];exact fp _ 95
  have a5:(((p[0]'c).toNat:Int)==((s[0]'A).toNat:Int))=qd:=by rw[y];exact fp _ _
  rw[<-v,<-y] at g;have C:=bZ (fun W=>J.o W (s.extract 1 s.size) (by rw[iv];omega));obtain⟨b,l⟩:∃b,b=lkB (s.extract 1 s.size) (p.extract 1 p.size):=⟨_,rfl⟩;rw[<-l] at C g;clear t d k v y l J;cases q5<;>cases qd
  ·obtain rfl:R=false:=by rw[g];rfl
   clear g;go_enter Tryz.func125,Tryz.ntmps125;go_upto_region 10 with fail;refine ae (S:=(fun _:World=>True)) (n:=19) (by kernel_rfl) ?_;have a:(fun _:World=>True) w.drew:=trivial;refine ord [0,1,2,3,4,5,6,7,8,9,10,11,12,13,14,15,16,17,18] ?_
   iterate 3 (refine tq a ?_;try simp only[PT,Y1,Y2,Y3])
   iterate 10 (first | (refine tu a ?_;try simp only[PT,Y1,Y2,Y3]) | (refine tq a ?_;try simp only[PT,Y1,Y2,Y3]))
   iterate 2 (refine tq a ?_;try simp only[PT,Y1,Y2,Y3])
   iterate 4 (first | (refine tu a ?_;try simp only[PT,Y1,Y2,Y3]) | (refine tq a ?_;try simp only[PT,Y1,Y2,Y3]))
   refine aB ?_;refine JQ 19 ?_
   try simp only[PT,Y1,Y2,Y3]
   refine JQ 20 ?_
   try simp only[PT,Y1,Y2,Y3]
   refine JQ 21 ?_
   try simp only[PT,Y1,Y2,Y3]
   refine JD ?_;go_wp2_with fail;go_ret;exact⟨rfl,bZ r.o.drew⟩
  all_goals
   obtain rfl:R=b:=by rw[g];simp
   clear g;go_enter Tryz.func125,Tryz.ntmps125;go_upto_region 10 with fail;refine ae (S:=(fun _:World=>True)) (n:=19) (by kernel_rfl) ?_;have a:(fun _:World=>True) w.drew:=trivial;refine ord [0,1,2,3,4,5,6,7,8,9,10,11,12,13,14,15,16,17,18] ?_
   iterate 3 (refine tq a ?_;try simp only[PT,Y1,Y2,Y3])
   iterate 10 (first | (refine tu a ?_;try simp only[PT,Y1,Y2,Y3]) | (refine tq a ?_;try simp only[PT,Y1,Y2,Y3]))
   iterate 2 (refine tq a ?_;try simp only[PT,Y1,Y2,Y3])
   iterate 4 (first | (refine tu a ?_;try simp only[PT,Y1,Y2,Y3]) | (refine tq a ?_;try simp only[PT,Y1,Y2,Y3]))
   refine aB ?_;refine J1 19 fun K F=>?_;dsimp only[Y1,Y2,Y3];go_simp;refine(C.o _).mono ?_;rintro e w7 ⟨rfl,Q⟩;have q:=bZ ((r.o.drew).trans Q.o);refine F _ _ (.inl (by omega)) ?_;clear F K
   try simp only[PT,Y1,Y2,Y3]
   refine JQ 20 ?_
   try simp only[PT,Y1,Y2,Y3]
   refine JQ 21 ?_
   try simp only[PT,Y1,Y2,Y3]
   refine JD ?_;go_wp2_with fail;go_ret;exact⟨by first | rfl | (simp;done),q⟩
theorem sT (w:World) (t:Ts) (s:ByteArray) (A:0<=t.kd) (B:t.kd<=3) (F:s.size<=100000) (H:t.s.size<=100000):Calls Tryz.prog 89 #[.agg #[I t.v,I t.kd,.bool t.ng,.string t.s],.string s] w (RoP w (.bool (t.pass s))):=by
 obtain⟨v,kd,m,u⟩:=t;dsimp only at*;obtain⟨R,a⟩:∃R,R=Ts.pass ⟨v,kd,m,u⟩ s:=⟨_,rfl⟩;rw[<-a];unfold Ts.pass at a;dsimp only at a;have r:=bZ (fun W=>si _ W s u rfl F H);have p:=bZ (fun W=>rp W s u F H);obtain⟨D,c⟩:∃W,W=w.alloc (.cells #[I v,I kd,.bool m,.string u] 40):=⟨_,rfl⟩;obtain⟨J,d⟩:∃g,g=w.heap.size:=⟨_,rfl⟩;have q:Z (ad [] w D):=bZ (by rw[c];exact(ad.refl [] w).alloc _);have j:Z (Blk D J 40 #[I v,I kd,.bool m,.string u]):=bZ (by rw[c,d];exact Blk.new w 40 _);have k:=j.o.cell;have l:=j.o.lt;have y:(s.toList==u.toList)=decide (s=u):=by
  rw[Lib.toList_data,Lib.toList_data];by_cases h:s=u
  ·rw[decide_eq_true h,h];exact beq_self_eq_true _
  rw[decide_eq_false h];exact beq_false_of_ne (fun K=>h (by cases s;cases u;congr 1;exact Array.ext' K))
 obtain rfl | rfl | rfl | rfl:kd=0\/kd=1\/kd=2\/kd=3:=by omega
 ·clear r p A B;simp only[if_true] at a;by_cases n:s=u
  ·rw[decide_eq_true n] at y a;clear n;replace a:=bZ a;cases m
   all_goals
    go_enter Tryz.func89,Tryz.ntmps89;go_upto_region 1 with fail;rw[<-c,<-d];clear c d;go_wp2_with fail;go_ret;exact⟨by rw[a.o];first | rfl | (simp;done),q⟩
  rw[decide_eq_false n] at y a;clear n;replace a:=bZ a;cases m
  all_goals
   go_enter Tryz.func89,Tryz.ntmps89;go_upto_region 1 with fail;rw[<-c,<-d];clear c d;go_wp2_with fail;go_ret;exact⟨by rw[a.o];first | rfl | (simp;done),q⟩
 ·clear p A B y;simp only[if_true,show ¬((1:Int)=0) by decide,if_false] at a;obtain⟨b,E⟩:∃b,b=lkB s u:=⟨_,rfl⟩;rw[<-E] at r a;clear E;cases b<;>cases m
  all_goals
   replace a:=bZ a;go_enter Tryz.func89,Tryz.ntmps89;go_upto_region 1 with fail;rw[<-c,<-d];clear c d;go_wp2_with (go_at_call 125;clear k l;refine(r.o _).mono ?_;rintro e C ⟨rfl,i⟩;have k:=(j.o.keep i.o (by simp)).cell;have l:=(j.o.keep i.o (by simp)).lt);go_ret;exact⟨by rw[a.o];first | rfl | (simp;done),bZ (q.o.trans i.o)⟩
 ·clear r A B y;simp only[if_true,show ¬((2:Int)=0) by decide,show ¬((2:Int)=1) by decide,if_false] at a;obtain⟨x,z⟩:∃x,x=cJ s u:=⟨_,rfl⟩;rw[<-z] at p a;clear z;by_cases f:x<0
  ·rw[decide_eq_true f] at a;cases m
   all_goals
    replace a:=bZ a;go_enter Tryz.func89,Tryz.ntmps89;go_upto_region 1 with fail;rw[<-c,<-d];clear c d;go_wp2_with (go_at_call 126;clear k l;refine(p.o _).mono ?_;rintro e C ⟨rfl,i⟩;have k:=(j.o.keep i.o (by simp)).cell;have l:=(j.o.keep i.o (by simp)).lt);go_ret;exact⟨by rw[a.o];first | rfl | (simp;done),bZ (q.o.trans i.o)⟩
  rw[decide_eq_false f] at a;replace f:=eq_false f;cases m
  all_goals
   replace a:=bZ a;go_enter Tryz.func89,Tryz.ntmps89;go_upto_region 1 with fail;rw[<-c,<-d];clear c d;go_wp2_with (go_at_call 126;clear k l;refine(p.o _).mono ?_;rintro e C ⟨rfl,i⟩;have k:=(j.o.keep i.o (by simp)).cell;have l:=(j.o.keep i.o (by simp)).lt);go_ret;exact⟨by rw[a.o];first | rfl | (simp;done),bZ (q.o.trans i.o)⟩
 clear r A B y;simp only[show ¬((3:Int)=0) by decide,show ¬((3:Int)=1) by decide,show ¬((3:Int)=2) by decide,if_false] at a;obtain⟨x,z⟩:∃x,x=cJ s u:=⟨_,rfl⟩;rw[<-z] at p a;clear z;by_cases f:x<=0
 ·rw[decide_eq_true f] at a;cases m
  all_goals
   replace a:=bZ a;go_enter Tryz.func89,Tryz.ntmps89;go_upto_region 1 with fail;rw[<-c,<-d];clear c d;go_wp2_with (go_at_call 126;clear k l;refine(p.o _).mono ?_;rintro e C ⟨rfl,i⟩;have k:=(j.o.keep i.o (by simp)).cell;have l:=(j.o.keep i.o (by simp)).lt);go_ret;exact⟨by rw[a.o];first | rfl | (simp;done),bZ (q.o.trans i.o)⟩
 rw[decide_eq_false f] at a;replace f:=eq_false f;cases m
 all_goals
  replace a:=bZ a;go_enter Tryz.func89,Tryz.ntmps89;go_upto_region 1 with fail;rw[<-c,<-d];clear c d;go_wp2_with (go_at_call 126;clear k l;refine(p.o _).mono ?_;rintro e C ⟨rfl,i⟩;have k:=(j.o.keep i.o (by simp)).cell;have l:=(j.o.keep i.o (by simp)).lt);go_ret;exact⟨by rw[a.o];first | rfl | (simp;done),bZ (q.o.trans i.o)⟩
theorem mM (w:World) (n a b:Int):Calls Tryz.prog 84 #[I n,I a,I b] w (RoP w (.bool (decide (a<=n) && decide (n<=b)))):=by
 have c:=bZ (ad.refl [] w);by_cases d:a<=n
 ·by_cases f:n<=b
  ·have e:(decide (a<=n) && decide (n<=b))=true:=by simp[d,f]
   rw[e];clear e;go_enter Tryz.func84,Tryz.ntmps84;go_wp2_with fail;go_ret;exact⟨rfl,c⟩
  have e:(decide (a<=n) && decide (n<=b))=false:=by simp[f]
  rw[e];clear e;go_enter Tryz.func84,Tryz.ntmps84;go_wp2_with fail;go_ret;exact⟨rfl,c⟩
 have e:(decide (a<=n) && decide (n<=b))=false:=by simp[d]
 rw[e];clear e;go_enter Tryz.func84,Tryz.ntmps84;go_wp2_with fail;go_ret;exact⟨rfl,c⟩
theorem yJ (w:World) (n:Int) (h:n.natAbs<=4611686018427387904):Calls Tryz.prog 123 #[I n] w (RoP w (I (n.natAbs:Nat))):=by
 have f:=bZ (ad.refl [] w);have b:wrap64 (-n)= -n:=IntWalk.wrap64_in _ (by omega);have a:IntKind.i64.wrap (-n)= -n:=C0 _ (by omega);obtain⟨m,c⟩:∃m,m=n.natAbs:=⟨_,rfl⟩;rw[<-c];by_cases g:n<0
 ·have e: -n=(m:Int):=by omega
  rw[e] at b a;rw[<-e] at b a;have d:wrap64 (-n)=(m:Int):=b.trans e;clear h c b a e;go_enter Tryz.func123,Tryz.ntmps123;go_wp2_with fail;go_ret;exact⟨congrArg (fun v=>Ending.returned (I v)) d,f⟩
 obtain rfl:n=(m:Int):=by omega
 clear b a c h;go_enter Tryz.func123,Tryz.ntmps123;go_wp2_with fail;go_ret;exact⟨rfl,f⟩
theorem tO (C:Nat->Prop) (w:World) (l:List Int) (v:Int) (A:Option Addr) (n c:Nat) (y:n=l.length) (J:n<=100000000) (h:ag a8 w C A l):Calls Tryz.prog 122 #[.slice A n c,I v] w (RoP w (.bool (decide (v∈l)))):=by
 have z:=bZ (ad.refl [] w);have d:=bZ y;replace h:=bZ h;obtain⟨r,f⟩:∃r,r=decide (v∈l):=⟨_,rfl⟩;rw[<-f];replace f:=bZ f;clear y;go_enter Tryz.func122,Tryz.ntmps122;go_wp2_with fail;go_loopw [5] (fun s wr=>∃j:Nat,j<=n/\s=I j/\Z (v∉l.take j)/\w=wr) (fun s _=>n - (intOf s).toNat)
 case atStart=>exact⟨0,C3 _,rfl,bZ (by simp),rfl⟩
 obtain⟨j,L,rfl,t,rfl⟩:=hrel;by_cases p:j<n
 ·obtain⟨x,q⟩:∃v,l[j]? =some v:=⟨_,CT (by rw[<-d.o];exact p)⟩;obtain⟨g,F,M,rfl,B,K,u,k⟩:=h.o.get bN (by decide) q;obtain rfl:=cU.1 u;have H:=k 0 _ rfl;rw[EU,Fg] at H;have D:(j:Int)<(n:Int):=by omega
  have N:IntKind.i64.wrap ((j:Int)+1)=(j:Int)+1:=C0 _ (by omega);have i:=bZ q;clear u k q B;by_cases b:x=v
  ·have E:(x==v)=true:=by simp[b]
   have a:r=true:=by rw[f.o];exact decide_eq_true (by rw[<-b];exact CW i.o)
   subst a;clear b;go_wp2_with fail;go_ret;exact⟨rfl,z⟩
  have E:(x==v)=false:=by simp[b]
  have m:Z (v∉l.take (j+1)):=bZ (by
   rw[Dq,i.o];simp only[Option.toList_some,CX,CZ,not_or];exact⟨t.o,fun e=>b e.symm⟩)
  clear b;go_wp2_with fail;go_roundw
  case rel=>exact⟨j+1,by omega,by go_num,m,by first | rfl | trivial⟩
  case measure=>simp[intOf];omega
 obtain rfl:j=n:=by omega
 have a:r=false:=by rw[f.o];exact decide_eq_false (by have:=t.o;rwa [C6 (by rw[<-d.o];exact C9 _)] at this)
 subst a;go_wp2_with fail;go_ret;exact⟨rfl,z⟩
theorem wR {l:List Int} (h:Asc l) {j:Nat} {a b:Int} (c:l[j]? =some a) (d:l[j+1]? =some b):a<b:=by
 obtain⟨p,rfl⟩:=CV.1 c;obtain⟨q,rfl⟩:=CV.1 d;exact Ex.1 h j (j+1) p q (by omega)
theorem jp (C:Nat->Prop) (w:World) (l:List Int) (A:Option Addr) (n c m:Nat) (L:n=l.length) (hb:n<=100000000) (z:Asc l) (u:∀v∈l,0<=v/\v<(m:Int)) (h:ag a8 w C A l):Calls Tryz.prog 81 #[.slice A n c,I m] w (RoP w (.bool true)):=by
 have S:=bZ (ad.refl [] w);have d:=bZ L;replace h:=bZ h;replace z:=bZ z;replace u:=bZ u;clear L;go_enter Tryz.func81,Tryz.ntmps81;go_wp2_with fail;go_loopw [5] (fun H wr=>∃j:Nat,j<=n/\H=I j/\Z (ad [] w wr)) (fun H _=>n - (intOf H).toNat)
 case atStart=>exact⟨0,C3 _,rfl,S⟩
 obtain⟨j,hj,rfl,q⟩:=hrel;obtain⟨wo,B⟩:∃x,x=wr:=⟨_,rfl⟩;subst B;have b:Z (∀nq,ad [] w (wo.drewN nq)):=bZ (fun nq=>q.o.drewN nq);by_cases t:j<n
 ·obtain⟨x,e⟩:∃v,l[j]? =some v:=⟨_,CT (by rw[<-d.o];exact t)⟩;obtain⟨g,T,rc,rfl,N,hg,K,f⟩:=(h.o.keep0 q.o).get bN (by decide) e;obtain rfl:=cU.1 K;have x0:=f 0 _ rfl;rw[EU,Fg] at x0;have R:(j:Int)<(n:Int):=by omega
  have wj:IntKind.i64.wrap ((j:Int)+1)=(j:Int)+1:=C0 _ (by omega);have k:=u.o x (CW e);have q1:(x<0)=False:=by simp;omega
  have X:decide (x<0)=false:=by simp;omega
  have q2:((m:Int)<=x)=False:=by simp;omega
  have Y:decide ((m:Int)<=x)=false:=by simp;omega
  clear K f N;by_cases J:j=0
  ·have W:((0:Int)<(j:Int))=False:=by simp;omega
   have F:decide (0<j)=false:=by simp;omega
   clear e k J;go_upto_region 4 with fail;go_quiet (fail);go_wp2_with fail;go_roundw
   case rel=>exact⟨j+1,by omega,by go_num,bZ (b.o _)⟩
   case measure=>simp[intOf];omega
  obtain⟨i,s⟩:∃i,i+1=j:=⟨j - 1,by omega⟩;obtain⟨y,E⟩:∃v,l[i]? =some v:=⟨_,CT (by rw[<-d.o];omega)⟩;obtain⟨g2,M,a1,O,r,P,a,p⟩:=(h.o.keep0 q.o).get bN (by decide) E;cases O;obtain rfl:=cU.1 a;have y0:=p 0 _ rfl;rw[EU,Fg] at y0;have D:=wR z.o E (by rw[s];exact e);have q3:(x<=y)=False:=by simp;omega
  have a0:decide (x<=y)=false:=by simp;omega
  have w2:IntKind.i64.wrap ((j:Int) - 1)=(i:Int):=by rw[C0 _ (by omega)];omega
  have a2:wrap64 ((j:Int) - 1)=(i:Int):=by rw[IntWalk.wrap64_in _ (by omega)];omega
  have W:(0:Int)<(j:Int):=by omega
  have F:decide (0<j)=true:=by simp;omega
  have Q:(i:Int)<(n:Int):=by omega
  replace s:=bZ s;clear a p r e E k D J;go_upto_region 4 with fail;go_quiet (fail);go_wp2_with fail;go_roundw
  case rel=>exact⟨j+1,by omega,by go_num,bZ (b.o _)⟩
  case measure=>simp[intOf];omega
 obtain rfl:j=n:=by omega
 go_wp2_with fail;go_ret;exact⟨rfl,q⟩
structure pY (l:List Vb) (c:Cla):Prop where
 ok:Cla.Ok l c
 l0:l.length<=10
theorem j0 {l:List Vb} {c:Cla} (h:pY l c):c.nul.length<=100/\c.nn.length<=100:=by
 have d:∀(b:List Int),Asc b->(∀v∈b,inV l v)->b.length<=100:=fun b m n=>by
  have f:=mX (k:=b) (l:=b) m (fun x=>Iff.rfl);have j:(sc b).length<=l.length:=by
   have:∀(b:List Int) (a K:Int),Asc b->(∀x∈b,a<=x/\x<K)->(b.length:Int)<=max 0 (K - a):=by
    intro b
    induction b with
    | nil=>intro a K _ _;simp;omega
    | cons x b ih=>
     intro a K e g;rw[Asc,DJ] at e;have f:=g x (by simp);have:=ih (x+1) K e.2 (fun y i=>⟨by have:=e.1 y i;omega,(g y (by simp[i])).2⟩);simp only[Dj];omega
   have:=this (sc b) 0 l.length (dn b) (fun x o=>n x (aG.1 o));omega
  rw[<-f] at j;have:=h.l0;omega
 exact⟨d _ h.ok.nul.1 h.ok.nul.2,d _ h.ok.nn.1 h.ok.nn.2⟩
theorem sC (C:Nat->Prop) (l:List Vb) (c:Cla) (s:Sv) (w:World) (v:Int) (L:Option Addr) (m u:Nat) (i:m=l.length) (q:pY l c) (j:txU l c.nn v) (n:er w C c s) (p:bR w L l):Calls Tryz.prog 82 #[I v,.agg (clL c s).toArray,.slice L m u] w (RoP w (.bool true)):=by
 obtain⟨y,x,f,b⟩:=cM j.1;obtain⟨k,d⟩:∃k:Nat,(k:Int)=v:=⟨v.toNat,by omega⟩;have a:v.toNat=k:=by omega
 rw[a] at f;obtain⟨g,E,rfl,t,F,H,J,K⟩:=p k x f;rw[b] at t;have B:(k:Int)<(m:Int):=by have:=(CV.1 f).1;omega
 have h:Z (∀W,ad [] w W->Calls Tryz.prog 122 #[.slice s.A1 c.nn.length s.c1,I (k:Int)] W (RoP W (.bool true))):=bZ (fun W z=>by
  have:=tO C W c.nn (k:Int) s.A1 c.nn.length s.c1 rfl (by have:=(j0 q).2;omega) (n.r1.keep0 z);rw[d,show decide (v∈c.nn)=true from decide_eq_true j.2] at this;rw[d];exact this)
 have r:Z (∀o,ad [] w (w.alloc o)):=bZ (fun o=>(ad.refl [] w).alloc o);have A:(0:Int)<=(k:Int):=by omega
 have M:g<w.heap.size:=block_lt_of_cell t;rw[<-d];clear d a j y f b p n q i F H J K;unfold clL;generalize c.nul.length=n0 at*;generalize c.nn.length=n1 at*;generalize c.ax.length=n2 at*;generalize c.is.length=n3 at*;generalize c.ts.length=n4 at*;generalize c.sm.length=n5 at*;generalize c.df.length=n6 at*;go_enter Tryz.func82,Tryz.ntmps82;go_wp2_with (go_at_call 122;refine(h.o _ (r.o _)).mono ?_;rintro e N ⟨rfl,D⟩);go_ret;exact⟨rfl,bZ ((r.o _).trans D.o)⟩
theorem sD (w:World) (t:Ts) (y:0<=t.kd) (C:t.kd<=3) (d:iQ t.s=true):Calls Tryz.prog 85 #[.agg #[I t.v,I t.kd,.bool t.ng,.string t.s]] w (RoP w (.bool true)):=by
 unfold iQ at d;rw[Bool.and_eq_true] at d;have p:Z (∀x∈t.s.data.toList,32<=x.toNat/\x.toNat<=126):=bZ (by have:=d.1;rw[List.all_eq_true] at this;intro x r;have:=this x r;simpa using this);have E:t.s.size<=16:=of_decide_eq_true d.2;have q:(t.s.size:Int)<=16:=by omega
 clear d;generalize t.v=tv at*;generalize t.kd=tk at*;generalize t.ng=tn at*;generalize t.s=s at*;obtain⟨e,b⟩:∃W,W=w.alloc (.cells #[I tv,I tk,.bool tn,.string s] 40):=⟨_,rfl⟩;obtain⟨i,c⟩:∃g,g=w.heap.size:=⟨_,rfl⟩;have u:Z (ad [] w e):=bZ (by rw[b];exact(ad.refl [] w).alloc _);have h:Z (Blk e i 40 #[I tv,I tk,.bool tn,.string s]):=bZ (by rw[b,c];exact Blk.new w 40 _);have F:¬3<tk:=by omega
 go_enter Tryz.func85,Tryz.ntmps85;go_upto_region 2 with fail;rw[<-b,<-c];clear b c;have z:=h.o.cell;have J:=h.o.lt;go_loopw [3] (fun f wr=>∃j:Nat,j<=s.size/\f=I (j:Int)/\e=wr) (fun f _=>s.size - (intOf f).toNat)
 case atStart=>exact⟨0,C3 _,rfl,rfl⟩
 obtain⟨j,D,rfl,rfl⟩:=hrel;by_cases a:j<s.size
 ·have n:(j:Int)<(s.size:Int):=by omega
  have H:IntKind.i64.wrap ((j:Int)+1)=(j:Int)+1:=C0 _ (by omega);have m:=p.o _ (CW (di s a));have k:((s[j]'a).toNat<32)=False:=eq_false (by omega);have A:(((s[j]'a).toNat:Int)<32)=False:=eq_false (by omega);have l:(126<(s[j]'a).toNat)=False:=eq_false (by omega);have B:(126<((s[j]'a).toNat:Int))=False:=eq_false (by omega);clear m;go_wp2_with fail;go_roundw
  case rel=>exact⟨j+1,by omega,by go_num,by trivial⟩
  case measure=>simp[intOf];omega
 obtain rfl:j=s.size:=by omega
 go_wp2_with fail;go_ret;exact⟨rfl,u⟩
end Go.Proofs.YtldmkbhgdbafhaaGreat
